/- The law FnExactConstants, walked: it returns true and leaves old memory alone. No condition. -/
import Derived.Test.YtadpeclelkgcdaaBase
namespace Go.Proofs.Ytadpeclelkgcdaa
open Go.RowKit

set_option maxHeartbeats 1000000 in
theorem law_Constants (w : World) :
    Calls Try.prog 3 #[] w fun e w' => e = .returned (.bool true) ∧ Below w.heap.size w w' := by
  go_enter Try.func3, Try.ntmps3
  go_wp2_with fail
  go_ret
  exact ⟨rfl, by (repeat (first | exact Below.refl _ _ | assumption | refine Bw.set ?_ (by omega) | refine Bw.al ?_ (by first | omega | (simp; done) | (simp; omega)) | refine Below.drew ?_ | refine Bw.dr ?_ _))⟩

end Go.Proofs.Ytadpeclelkgcdaa
