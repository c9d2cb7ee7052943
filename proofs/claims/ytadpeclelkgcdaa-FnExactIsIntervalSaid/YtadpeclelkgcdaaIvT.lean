/- The laws own helpers on intervals. Conditions: those that each theorem names. -/
import Derived.Test.YtadpeclelkgcdaaBase
namespace Go.Proofs.Ytadpeclelkgcdaa
open Go.RowKit

set_option maxHeartbeats 400000 in
theorem toInterval_any (lo hi : Int) (w : World) :
    Calls Try.prog 16 #[.agg #[.int .i64 lo, .int .i64 hi]] w fun e w' => e = .returned (.agg #[.int .i64 lo, .int .i64 hi]) ∧ Below w.heap.size w w' := by
  go_enter Try.func16, Try.ntmps16
  go_wp2
  refine bodyPost_ret (v := .agg #[.int .i64 lo, .int .i64 hi]) (by simp (maxDischargeDepth := 8) [results, Try.results16, go_sem, Try.results16]) rfl ⟨?_, ?_⟩
  · rfl
  · (repeat (first | exact Below.refl _ _ | assumption | refine Bw.set ?_ (by omega) | refine Bw.al ?_ (by first | omega | (simp; done) | (simp; omega)) | refine Below.drew ?_ | refine Bw.dr ?_ _))
set_option maxHeartbeats 400000 in
theorem eqInterval_same (a b : Int) (w : World) :
    Calls Try.prog 22 #[.agg #[.int .i64 a, .int .i64 b], .agg #[.int .i64 a, .int .i64 b]] w fun e w' => e = .returned (.bool true) ∧ Below w.heap.size w w' := by
  go_enter Try.func22, Try.ntmps22
  go_wp2
  go_ret
  exact ⟨rfl, by (repeat (first | exact Below.refl _ _ | assumption | refine Bw.set ?_ (by omega) | refine Bw.al ?_ (by first | omega | (simp; done) | (simp; omega)) | refine Below.drew ?_ | refine Bw.dr ?_ _))⟩

end Go.Proofs.Ytadpeclelkgcdaa
