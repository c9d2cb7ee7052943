/- The law FnExactMostCrosses, walked: it returns true and leaves old memory alone. No condition. -/
import Derived.Test.YtgikjdckajogpaaWhD
namespace Go.Proofs.Ytgikjdckajogpaa
open Go.RowKit

set_option maxHeartbeats 1000000 in
theorem law_MostCrosses (n : Int) (w : World) :
    Calls Try.prog 3 #[.int .i64 n] w fun e w' => e = .returned (.bool true) ∧ Below w.heap.size w w' := by
  go_enter Try.func3, Try.ntmps3
  go_wp2_with fail
  refine (spec_MostCrosses _ _).mono ?_
  rintro e w1 ⟨rfl, hb1⟩
  go_wp2_with fail
  refine (impl_MostCrosses _ _).mono ?_
  rintro e w1 ⟨rfl, rfl⟩
  go_wp2_with fail
  go_ret
  exact ⟨rfl, hb1⟩

end Go.Proofs.Ytgikjdckajogpaa
