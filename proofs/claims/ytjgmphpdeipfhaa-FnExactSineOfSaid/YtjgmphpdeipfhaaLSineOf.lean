/- The law FnExactSineOf, walked: it returns true and leaves old memory alone. No condition. -/
import Derived.Test.YtjgmphpdeipfhaaAngF
namespace Go.Proofs.Ytjgmphpdeipfhaa
open Go.RowKit

set_option maxHeartbeats 1000000 in
theorem law_SineOf (n : Int) (w : World) :
    Calls Try.prog 5 #[.int .i64 n] w fun e w' => e = .returned (.bool true) ∧ Below w.heap.size w w' := by
  go_enter Try.func5, Try.ntmps5
  go_wp2_with fail
  refine (spec_SineOf _ _).mono ?_
  rintro e w1 ⟨rfl, hb1⟩
  go_wp2_with fail
  refine (impl_SineOf _ _).mono ?_
  rintro e w1 ⟨rfl, rfl⟩
  go_wp2_with fail
  go_ret
  exact ⟨rfl, hb1⟩

end Go.Proofs.Ytjgmphpdeipfhaa
