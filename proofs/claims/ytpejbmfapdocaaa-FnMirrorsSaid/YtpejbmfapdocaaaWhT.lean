/- The laws' own helpers on hubs, rims and wheels. No condition. -/
import Derived.Test.YtpejbmfapdocaaaBase
namespace Go.Proofs.Ytpejbmfapdocaaa
open Go.RowKit

theorem load9 {w : World} {g : Nat} {v0 v1 v2 v3 v4 v5 v6 v7 v8 : Value} (h : ∀ i, w.cell? ⟨g, i, none⟩ = #[v0, v1, v2, v3, v4, v5, v6, v7, v8][i]?) : (loadVar 64 ⟨g, 0, none⟩).run Try.prog w = .ok (.agg #[v0, v1, v2, v3, v4, v5, v6, v7, v8]) w := by
  simp [go_sem, h]
set_option maxHeartbeats 1000000 in
theorem eqHub_same (h l r lo ro : Int) (w : World) : Calls Try.prog 93 #[.agg #[.int .i64 h, .int .i64 l, .int .i64 r, .int .i64 lo, .int .i64 ro], .agg #[.int .i64 h, .int .i64 l, .int .i64 r, .int .i64 lo, .int .i64 ro]] w fun e w' => e = .returned (.bool true) ∧ Below w.heap.size w w' := by
  go_enter Try.func93, Try.ntmps93
  go_wp2
  go_ret
  exact ⟨rfl, by (repeat (first | with_reducible exact Below.refl _ _ | with_reducible assumption | ((with_reducible refine Bw.set ?_ ?_); rotate_left; focus omega) | ((with_reducible refine Bw.al ?_ ?_); rotate_left; focus (first | omega | (simp; done) | (simp; omega))) | with_reducible refine Below.drew ?_ | with_reducible refine Bw.dr ?_ _))⟩

end Go.Proofs.Ytpejbmfapdocaaa
