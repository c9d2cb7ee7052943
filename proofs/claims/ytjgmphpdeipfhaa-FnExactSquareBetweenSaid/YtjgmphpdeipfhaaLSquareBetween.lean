/- The law FnExactSquareBetween, walked: it returns true and leaves old memory alone. No condition. -/
import Derived.Test.YtjgmphpdeipfhaaAngS
namespace Go.Proofs.Ytjgmphpdeipfhaa
open Go.RowKit

set_option maxHeartbeats 1000000 in
theorem law_SquareBetween (a b n : Int) (w : World) :
    Calls Try.prog 7 #[.int .i64 a, .int .i64 b, .int .i64 n] w fun e w' => e = .returned (.bool true) ∧ Below w.heap.size w w' := by
  go_enter Try.func7, Try.ntmps7
  go_wp2_with fail
  refine (spec_SquareBetween _ _ _ _).mono ?_
  rintro e w1 ⟨rfl, hb1⟩
  go_wp2_with fail
  refine (impl_SquareBetween _ _ _ _).mono ?_
  rintro e w1 ⟨rfl, rfl⟩
  go_wp2_with fail
  go_ret
  exact ⟨rfl, hb1⟩

end Go.Proofs.Ytjgmphpdeipfhaa
