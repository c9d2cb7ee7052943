/- The law FnExactMeasureText, walked: it returns true and leaves old memory alone. No condition. -/
import Derived.Test.YtpoeglfchgdmoaaMes
import Derived.Test.YtpoeglfchgdmoaaRd
namespace Go.Proofs.Ytpoeglfchgdmoaa
open Go.RowKit

set_option maxHeartbeats 1000000 in
theorem law_MeasureText (n : Int) (w : World) :
    Calls Try.prog 3 #[.int .i64 n] w fun e w' => e = .returned (.bool true) ∧ Below w.heap.size w w' := by
  go_enter Try.func3, Try.ntmps3
  go_wp2_with fail
  refine (spec_MeasureText _ _).mono ?_
  rintro e w1 ⟨rfl, hb1⟩
  go_wp2_with fail
  refine (impl_MeasureText _ _).mono ?_
  rintro e w2 ⟨rfl, hb2⟩
  have hq : (!(mtF n).1.toList == (mtF n).1.toList) = false := by simp
  go_wp2_with fail
  go_ret
  exact ⟨rfl, hb1.trans (hb2.mono hb1.size)⟩

end Go.Proofs.Ytpoeglfchgdmoaa
