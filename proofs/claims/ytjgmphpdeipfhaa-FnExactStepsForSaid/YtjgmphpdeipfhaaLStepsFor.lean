/- The law FnExactStepsFor, walked: it returns true and leaves old memory alone. No condition. -/
import Derived.Test.YtjgmphpdeipfhaaAngS
namespace Go.Proofs.Ytjgmphpdeipfhaa
open Go.RowKit

set_option maxHeartbeats 1000000 in
theorem law_StepsFor (a b d : Int) (w : World) :
    Calls Try.prog 9 #[.int .i64 a, .int .i64 b, .int .i64 d] w fun e w' => e = .returned (.bool true) ∧ Below w.heap.size w w' := by
  go_enter Try.func9, Try.ntmps9
  go_wp2_with fail
  refine (spec_StepsFor _ _ _ _).mono ?_
  rintro e w1 ⟨rfl, hb1⟩
  go_wp2_with fail
  refine (impl_StepsFor _ _ _ _).mono ?_
  rintro e w1 ⟨rfl, rfl⟩
  go_wp2_with fail
  go_ret
  exact ⟨rfl, hb1⟩

end Go.Proofs.Ytjgmphpdeipfhaa
