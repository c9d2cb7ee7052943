/- The law FnExactReadHub, walked: it returns true and leaves old memory alone. Condition: the text is no longer than a slice can be. -/
import Derived.Test.YtpejbmfapdocaaaHbP
import Derived.Test.YtpejbmfapdocaaaWhT
namespace Go.Proofs.Ytpejbmfapdocaaa
open Go.RowKit

set_option maxRecDepth 100000 in
set_option maxHeartbeats 4000000 in
theorem law_ReadHub (s : ByteArray) (v : World) (hs : s.size ≤ maxLen) :
    Calls Try.prog 13 #[.string s] v fun e w' => e = .returned (.bool true) ∧ Below v.heap.size v w' := by
  unfold maxLen at hs
  by_cases hl : 1048576 < s.size
  · go_enter Try.func13, Try.ntmps13
    go_wp2_with fail
    go_ret
    exact ⟨rfl, Below.refl _ _⟩
  obtain ⟨h, l, r, lo, ro, c, hr⟩ := rdHub_get s
  have HR := Lib.hid hr
  have HL := Lib.hid (show s.size ≤ 1048576 by omega)
  have bb := Below.refl v.heap.size v
  have zb := bb.size
  clear hr
  go_enter Try.func13, Try.ntmps13
  go_wp2_with fail
  (with_reducible refine (spec_ReadHub_at _ HL.out HR.out).mono ?_)
  rintro e w1 ⟨rfl, hb1⟩
  replace bb : Below v.heap.size v w1 := Below.trans (by (repeat (first | with_reducible exact Below.refl _ _ | with_reducible assumption | ((with_reducible refine Bw.set ?_ ?_); rotate_left; focus omega) | ((with_reducible refine Bw.al ?_ ?_); rotate_left; focus (first | omega | (simp; done) | (simp; omega))) | with_reducible refine Below.drew ?_ | with_reducible refine Bw.dr ?_ _))) (hb1.mono (by first | omega | (simp; omega)))
  have zb := bb.size
  clear hb1
  go_upto_region 4 with fail
  have c1 := cell_new w1 #[Value.int .i64 h, Value.int .i64 l, Value.int .i64 r, Value.int .i64 lo, Value.int .i64 ro] 33
  replace bb : Below v.heap.size v (w1.alloc (.cells #[Value.int .i64 h, Value.int .i64 l, Value.int .i64 r, Value.int .i64 lo, Value.int .i64 ro] 33)) := bb.alloc (by omega) _
  have zc1 := lt_cell c1 (by simp)
  generalize w1.alloc (.cells #[Value.int .i64 h, Value.int .i64 l, Value.int .i64 r, Value.int .i64 lo, Value.int .i64 ro] 33) = w2 at *
  generalize w1.heap.size = b1 at *
  have zb := bb.size
  go_wp2_with fail
  (with_reducible refine (impl_ReadHub_at _ HL.out HR.out).mono ?_)
  rintro e w3 ⟨rfl, hb1⟩
  first | replace c1 := cell_kept hb1 (by first | omega | (simp; omega)) c1 | replace c1 := cell_kept hb1 (by first | omega | (simp; omega)) (cell_alloc c1 (by omega) _)
  replace zc1 := lt_cell c1 (by simp)
  replace bb : Below v.heap.size v w3 := Below.trans (by (repeat (first | with_reducible exact Below.refl _ _ | with_reducible assumption | ((with_reducible refine Bw.set ?_ ?_); rotate_left; focus omega) | ((with_reducible refine Bw.al ?_ ?_); rotate_left; focus (first | omega | (simp; done) | (simp; omega))) | with_reducible refine Below.drew ?_ | with_reducible refine Bw.dr ?_ _))) (hb1.mono (by first | omega | (simp; omega)))
  have zb := bb.size
  clear hb1
  go_upto_region 5 with fail
  replace c1 := cell_alloc c1 (by omega) (.cells #[Value.int .i64 h, Value.int .i64 l, Value.int .i64 r, Value.int .i64 lo, Value.int .i64 ro] 33)
  replace zc1 := lt_cell c1 (by simp)
  have c2 := cell_new w3 #[Value.int .i64 h, Value.int .i64 l, Value.int .i64 r, Value.int .i64 lo, Value.int .i64 ro] 33
  replace bb : Below v.heap.size v (w3.alloc (.cells #[Value.int .i64 h, Value.int .i64 l, Value.int .i64 r, Value.int .i64 lo, Value.int .i64 ro] 33)) := bb.alloc (by omega) _
  have zc2 := lt_cell c2 (by simp)
  generalize w3.alloc (.cells #[Value.int .i64 h, Value.int .i64 l, Value.int .i64 r, Value.int .i64 lo, Value.int .i64 ro] 33) = w4 at *
  generalize w3.heap.size = b2 at *
  have zb := bb.size
  go_wp2_with fail
  (with_reducible refine (eqHub_same _ _ _ _ _ _).mono ?_)
  rintro e w5 ⟨rfl, hb1⟩
  first | replace c1 := cell_kept hb1 (by first | omega | (simp; omega)) c1 | replace c1 := cell_kept hb1 (by first | omega | (simp; omega)) (cell_alloc c1 (by omega) _)
  replace zc1 := lt_cell c1 (by simp)
  first | replace c2 := cell_kept hb1 (by first | omega | (simp; omega)) c2 | replace c2 := cell_kept hb1 (by first | omega | (simp; omega)) (cell_alloc c2 (by omega) _)
  replace zc2 := lt_cell c2 (by simp)
  replace bb : Below v.heap.size v w5 := Below.trans (by (repeat (first | with_reducible exact Below.refl _ _ | with_reducible assumption | ((with_reducible refine Bw.set ?_ ?_); rotate_left; focus omega) | ((with_reducible refine Bw.al ?_ ?_); rotate_left; focus (first | omega | (simp; done) | (simp; omega))) | with_reducible refine Below.drew ?_ | with_reducible refine Bw.dr ?_ _))) (hb1.mono (by first | omega | (simp; omega)))
  have zb := bb.size
  clear hb1
  go_wp2_with fail
  go_ret
  exact ⟨rfl, bb⟩

end Go.Proofs.Ytpejbmfapdocaaa
