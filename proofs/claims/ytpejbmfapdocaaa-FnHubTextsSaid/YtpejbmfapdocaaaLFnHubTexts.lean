/- The law FnHubTexts, walked: it returns true and leaves old memory alone. Condition: the code reads as bytes. -/
import Derived.Test.YtpejbmfapdocaaaDrU
import Derived.Test.YtpejbmfapdocaaaHbT
import Derived.Test.YtpejbmfapdocaaaWhT
namespace Go.Proofs.Ytpejbmfapdocaaa
open Go.RowKit

set_option maxRecDepth 100000 in
set_option maxHeartbeats 4000000 in
theorem law_FnHubTexts (A : Option Addr) (cap : Nat) (us : List Int) (v : World) (hr : Rd v v.heap.size A (bv us)) (hm : us.length ≤ maxLen) (hby : ∀ k, 0 ≤ us.getD k 0 ∧ us.getD k 0 ≤ 255) :
    Calls Try.prog 4 #[.slice A us.length cap] v fun e w' => e = .returned (.bool true) ∧ Below v.heap.size v w' := by
  unfold maxLen at hm
  by_cases hl : 4096 < us.length
  · have hl2 := Lib.hid (show decide (4096 < (us.length : Int)) = true from decide_eq_true (by omega))
    go_enter Try.func4, Try.ntmps4
    go_wp2_with fail
    (with_reducible refine (big_any A us.length cap true _ hl2.out (by unfold maxLen; omega)).mono ?_)
    rintro e w ⟨rfl, rfl⟩
    go_wp2_with fail
    go_ret
    exact ⟨rfl, Below.refl _ _⟩
  have hl2 := Lib.hid (show decide (4096 < (us.length : Int)) = false from decide_eq_false (by omega))
  have HU := Lib.hid (show Code us from ⟨by omega, hby⟩)
  have HR := Lib.hid hr
  have HL := Lib.hid (show us.length ≤ maxLen by unfold maxLen; omega)
  clear hr hm hby hl
  have bb := Below.refl v.heap.size v
  have zb := bb.size
  go_enter Try.func4, Try.ntmps4
  go_wp2_with fail
  (with_reducible refine (big_any A us.length cap false _ hl2.out HL.out).mono ?_)
  rintro e w ⟨rfl, rfl⟩
  go_wp2_with fail
  (with_reducible refine (spec_DrawHubText _ _ us _ HU.out HR.out).mono ?_)
  rintro e w1 ⟨h, l, r, lo, ro, rfl, hb1⟩
  replace bb := hb1
  replace zb := hb1.size
  clear hb1
  have T1 := fun w => impl_HubText h l r lo ro w
  have T2 := fun w => spec_HubText h l r lo ro w
  obtain ⟨t, tc, et⟩ : ∃ t tc, hbF h l r lo ro = (t, tc) := ⟨_, _, rfl⟩
  simp only [et] at T1 T2
  replace T1 := Lib.hid T1
  replace T2 := Lib.hid T2
  replace et := Lib.hid et
  go_upto_region 4 with fail
  have c1 := cell_new w1 #[Value.int .i64 h, Value.int .i64 l, Value.int .i64 r, Value.int .i64 lo, Value.int .i64 ro] 33
  replace bb : Below v.heap.size v (w1.alloc (.cells #[Value.int .i64 h, Value.int .i64 l, Value.int .i64 r, Value.int .i64 lo, Value.int .i64 ro] 33)) := bb.alloc (by omega) _
  have zc1 := lt_cell c1 (by simp)
  generalize w1.alloc (.cells #[Value.int .i64 h, Value.int .i64 l, Value.int .i64 r, Value.int .i64 lo, Value.int .i64 ro] 33) = w2 at *
  generalize w1.heap.size = b1 at *
  have zb := bb.size
  go_wp2_with fail
  (with_reducible refine (T1.out _).mono ?_)
  rintro e w3 ⟨rfl, hb1⟩
  first | replace c1 := cell_kept hb1 (by first | omega | (simp; omega)) c1 | replace c1 := cell_kept hb1 (by first | omega | (simp; omega)) (cell_alloc c1 (by omega) _)
  replace zc1 := lt_cell c1 (by simp)
  replace bb : Below v.heap.size v w3 := Below.trans (by (repeat (first | with_reducible exact Below.refl _ _ | with_reducible assumption | ((with_reducible refine Bw.set ?_ ?_); rotate_left; focus omega) | ((with_reducible refine Bw.al ?_ ?_); rotate_left; focus (first | omega | (simp; done) | (simp; omega))) | with_reducible refine Below.drew ?_ | with_reducible refine Bw.dr ?_ _))) (hb1.mono (by first | omega | (simp; omega)))
  have zb := bb.size
  clear hb1
  go_wp2_with fail
  (with_reducible refine (T2.out _).mono ?_)
  rintro e w4 ⟨rfl, hb1⟩
  first | replace c1 := cell_kept hb1 (by first | omega | (simp; omega)) c1 | replace c1 := cell_kept hb1 (by first | omega | (simp; omega)) (cell_alloc c1 (by omega) _)
  replace zc1 := lt_cell c1 (by simp)
  replace bb : Below v.heap.size v w4 := Below.trans (by (repeat (first | with_reducible exact Below.refl _ _ | with_reducible assumption | ((with_reducible refine Bw.set ?_ ?_); rotate_left; focus omega) | ((with_reducible refine Bw.al ?_ ?_); rotate_left; focus (first | omega | (simp; done) | (simp; omega))) | with_reducible refine Below.drew ?_ | with_reducible refine Bw.dr ?_ _))) (hb1.mono (by first | omega | (simp; omega)))
  have zb := bb.size
  clear hb1
  go_wp2_with fail
  (with_reducible refine (spec_DrawReadHub _ _ us _ HU.out ((HR.out.keep bb).more zb)).mono ?_)
  rintro e w5 ⟨s, hs, rfl, hb1⟩
  first | replace c1 := cell_kept hb1 (by first | omega | (simp; omega)) c1 | replace c1 := cell_kept hb1 (by first | omega | (simp; omega)) (cell_alloc c1 (by omega) _)
  replace zc1 := lt_cell c1 (by simp)
  replace bb : Below v.heap.size v w5 := bb.trans (hb1.mono zb)
  have zb := bb.size
  clear hb1
  have HL := Lib.hid (show s.size ≤ 1048576 by omega)
  obtain ⟨p0, p1, p2, p3, p4, c, hrd⟩ := rdHub_get s
  replace hrd := Lib.hid hrd
  go_wp2_with fail
  (with_reducible refine (impl_ReadHub_at _ HL.out hrd.out).mono ?_)
  rintro e w6 ⟨rfl, hb1⟩
  first | replace c1 := cell_kept hb1 (by first | omega | (simp; omega)) c1 | replace c1 := cell_kept hb1 (by first | omega | (simp; omega)) (cell_alloc c1 (by omega) _)
  replace zc1 := lt_cell c1 (by simp)
  replace bb : Below v.heap.size v w6 := Below.trans (by (repeat (first | with_reducible exact Below.refl _ _ | with_reducible assumption | ((with_reducible refine Bw.set ?_ ?_); rotate_left; focus omega) | ((with_reducible refine Bw.al ?_ ?_); rotate_left; focus (first | omega | (simp; done) | (simp; omega))) | with_reducible refine Below.drew ?_ | with_reducible refine Bw.dr ?_ _))) (hb1.mono (by first | omega | (simp; omega)))
  have zb := bb.size
  clear hb1
  go_upto_region 8 with fail
  replace c1 := cell_alloc c1 (by omega) (.cells #[Value.int .i64 p0, Value.int .i64 p1, Value.int .i64 p2, Value.int .i64 p3, Value.int .i64 p4] 33)
  replace zc1 := lt_cell c1 (by simp)
  have c2 := cell_new w6 #[Value.int .i64 p0, Value.int .i64 p1, Value.int .i64 p2, Value.int .i64 p3, Value.int .i64 p4] 33
  replace bb : Below v.heap.size v (w6.alloc (.cells #[Value.int .i64 p0, Value.int .i64 p1, Value.int .i64 p2, Value.int .i64 p3, Value.int .i64 p4] 33)) := bb.alloc (by omega) _
  have zc2 := lt_cell c2 (by simp)
  generalize w6.alloc (.cells #[Value.int .i64 p0, Value.int .i64 p1, Value.int .i64 p2, Value.int .i64 p3, Value.int .i64 p4] 33) = w7 at *
  generalize w6.heap.size = b2 at *
  have zb := bb.size
  go_wp2_with fail
  (with_reducible refine (spec_ReadHub_at _ HL.out hrd.out).mono ?_)
  rintro e w8 ⟨rfl, hb1⟩
  first | replace c1 := cell_kept hb1 (by first | omega | (simp; omega)) c1 | replace c1 := cell_kept hb1 (by first | omega | (simp; omega)) (cell_alloc c1 (by omega) _)
  replace zc1 := lt_cell c1 (by simp)
  first | replace c2 := cell_kept hb1 (by first | omega | (simp; omega)) c2 | replace c2 := cell_kept hb1 (by first | omega | (simp; omega)) (cell_alloc c2 (by omega) _)
  replace zc2 := lt_cell c2 (by simp)
  replace bb : Below v.heap.size v w8 := Below.trans (by (repeat (first | with_reducible exact Below.refl _ _ | with_reducible assumption | ((with_reducible refine Bw.set ?_ ?_); rotate_left; focus omega) | ((with_reducible refine Bw.al ?_ ?_); rotate_left; focus (first | omega | (simp; done) | (simp; omega))) | with_reducible refine Below.drew ?_ | with_reducible refine Bw.dr ?_ _))) (hb1.mono (by first | omega | (simp; omega)))
  have zb := bb.size
  clear hb1
  go_upto_region 9 with fail
  replace c1 := cell_alloc c1 (by omega) (.cells #[Value.int .i64 p0, Value.int .i64 p1, Value.int .i64 p2, Value.int .i64 p3, Value.int .i64 p4] 33)
  replace zc1 := lt_cell c1 (by simp)
  replace c2 := cell_alloc c2 (by omega) (.cells #[Value.int .i64 p0, Value.int .i64 p1, Value.int .i64 p2, Value.int .i64 p3, Value.int .i64 p4] 33)
  replace zc2 := lt_cell c2 (by simp)
  have c3 := cell_new w8 #[Value.int .i64 p0, Value.int .i64 p1, Value.int .i64 p2, Value.int .i64 p3, Value.int .i64 p4] 33
  replace bb : Below v.heap.size v (w8.alloc (.cells #[Value.int .i64 p0, Value.int .i64 p1, Value.int .i64 p2, Value.int .i64 p3, Value.int .i64 p4] 33)) := bb.alloc (by omega) _
  have zc3 := lt_cell c3 (by simp)
  generalize w8.alloc (.cells #[Value.int .i64 p0, Value.int .i64 p1, Value.int .i64 p2, Value.int .i64 p3, Value.int .i64 p4] 33) = w9 at *
  generalize w8.heap.size = b3 at *
  have zb := bb.size
  have hq : (!t.toList == t.toList) = false := by simp
  have hq2 : (!s.toList == s.toList) = false := by simp
  have IA := impl_IsHub h l r lo ro
  have hc : c = 0 ∨ c = 6 := by rcases hrd.out with ⟨e0, _⟩ | ⟨e0, _⟩ <;> omega
  rcases hc with rfl | rfl
  all_goals
    rcases hv : hubB h l r lo ro with _ | _
  · rw [hv] at IA
    replace IA := Lib.hid IA
    obtain ⟨h1, h2⟩ := hub_back hrd.out rfl
    have M3 := fun w => impl_HubText p0 p1 p2 p3 p4 w
    simp only [hbF_y h1, h2] at M3
    replace M3 := Lib.hid M3
    clear h1 h2
    clear hrd
    have e2 := et.out
    rw [hbF_n hv] at e2
    obtain ⟨rfl, rfl⟩ := Prod.mk.inj e2
    clear e2 et hv
    go_wp2_with fail
    (with_reducible refine (IA.out _).mono ?_)
    rintro e w10 ⟨rfl, hb1⟩
    first | replace c1 := cell_kept hb1 (by first | omega | (simp; omega)) c1 | replace c1 := cell_kept hb1 (by first | omega | (simp; omega)) (cell_alloc c1 (by omega) _)
    replace zc1 := lt_cell c1 (by simp)
    first | replace c2 := cell_kept hb1 (by first | omega | (simp; omega)) c2 | replace c2 := cell_kept hb1 (by first | omega | (simp; omega)) (cell_alloc c2 (by omega) _)
    replace zc2 := lt_cell c2 (by simp)
    first | replace c3 := cell_kept hb1 (by first | omega | (simp; omega)) c3 | replace c3 := cell_kept hb1 (by first | omega | (simp; omega)) (cell_alloc c3 (by omega) _)
    replace zc3 := lt_cell c3 (by simp)
    replace bb : Below v.heap.size v w10 := Below.trans (by (repeat (first | with_reducible exact Below.refl _ _ | with_reducible assumption | ((with_reducible refine Bw.set ?_ ?_); rotate_left; focus omega) | ((with_reducible refine Bw.al ?_ ?_); rotate_left; focus (first | omega | (simp; done) | (simp; omega))) | with_reducible refine Below.drew ?_ | with_reducible refine Bw.dr ?_ _))) (hb1.mono (by first | omega | (simp; omega)))
    have zb := bb.size
    clear hb1
    go_wp2_with fail
    (with_reducible refine (M3.out _).mono ?_)
    rintro e w11 ⟨rfl, hb1⟩
    first | replace c1 := cell_kept hb1 (by first | omega | (simp; omega)) c1 | replace c1 := cell_kept hb1 (by first | omega | (simp; omega)) (cell_alloc c1 (by omega) _)
    replace zc1 := lt_cell c1 (by simp)
    first | replace c2 := cell_kept hb1 (by first | omega | (simp; omega)) c2 | replace c2 := cell_kept hb1 (by first | omega | (simp; omega)) (cell_alloc c2 (by omega) _)
    replace zc2 := lt_cell c2 (by simp)
    first | replace c3 := cell_kept hb1 (by first | omega | (simp; omega)) c3 | replace c3 := cell_kept hb1 (by first | omega | (simp; omega)) (cell_alloc c3 (by omega) _)
    replace zc3 := lt_cell c3 (by simp)
    replace bb : Below v.heap.size v w11 := Below.trans (by (repeat (first | with_reducible exact Below.refl _ _ | with_reducible assumption | ((with_reducible refine Bw.set ?_ ?_); rotate_left; focus omega) | ((with_reducible refine Bw.al ?_ ?_); rotate_left; focus (first | omega | (simp; done) | (simp; omega))) | with_reducible refine Below.drew ?_ | with_reducible refine Bw.dr ?_ _))) (hb1.mono (by first | omega | (simp; omega)))
    have zb := bb.size
    clear hb1
    go_wp2_with fail
    go_ret
    exact ⟨rfl, bb⟩
  · rw [hv] at IA
    replace IA := Lib.hid IA
    obtain ⟨h1, h2⟩ := hub_back hrd.out rfl
    have M3 := fun w => impl_HubText p0 p1 p2 p3 p4 w
    simp only [hbF_y h1, h2] at M3
    replace M3 := Lib.hid M3
    clear h1 h2
    clear hrd
    have e2 := et.out
    rw [hbF_y hv] at e2
    obtain ⟨e3, rfl⟩ := Prod.mk.inj e2
    have R4 := Lib.hid (fun w => impl_ReadHub_at (s := t) w (by have := hbB_size hv; rw [e3] at this; omega) (show RdHub t h l r lo ro 0 from e3 ▸ hub_read hv))
    clear e2 e3 et hv
    go_wp2_with fail
    (with_reducible refine (IA.out _).mono ?_)
    rintro e w10 ⟨rfl, hb1⟩
    first | replace c1 := cell_kept hb1 (by first | omega | (simp; omega)) c1 | replace c1 := cell_kept hb1 (by first | omega | (simp; omega)) (cell_alloc c1 (by omega) _)
    replace zc1 := lt_cell c1 (by simp)
    first | replace c2 := cell_kept hb1 (by first | omega | (simp; omega)) c2 | replace c2 := cell_kept hb1 (by first | omega | (simp; omega)) (cell_alloc c2 (by omega) _)
    replace zc2 := lt_cell c2 (by simp)
    first | replace c3 := cell_kept hb1 (by first | omega | (simp; omega)) c3 | replace c3 := cell_kept hb1 (by first | omega | (simp; omega)) (cell_alloc c3 (by omega) _)
    replace zc3 := lt_cell c3 (by simp)
    replace bb : Below v.heap.size v w10 := Below.trans (by (repeat (first | with_reducible exact Below.refl _ _ | with_reducible assumption | ((with_reducible refine Bw.set ?_ ?_); rotate_left; focus omega) | ((with_reducible refine Bw.al ?_ ?_); rotate_left; focus (first | omega | (simp; done) | (simp; omega))) | with_reducible refine Below.drew ?_ | with_reducible refine Bw.dr ?_ _))) (hb1.mono (by first | omega | (simp; omega)))
    have zb := bb.size
    clear hb1
    go_wp2_with fail
    (with_reducible refine (M3.out _).mono ?_)
    rintro e w11 ⟨rfl, hb1⟩
    first | replace c1 := cell_kept hb1 (by first | omega | (simp; omega)) c1 | replace c1 := cell_kept hb1 (by first | omega | (simp; omega)) (cell_alloc c1 (by omega) _)
    replace zc1 := lt_cell c1 (by simp)
    first | replace c2 := cell_kept hb1 (by first | omega | (simp; omega)) c2 | replace c2 := cell_kept hb1 (by first | omega | (simp; omega)) (cell_alloc c2 (by omega) _)
    replace zc2 := lt_cell c2 (by simp)
    first | replace c3 := cell_kept hb1 (by first | omega | (simp; omega)) c3 | replace c3 := cell_kept hb1 (by first | omega | (simp; omega)) (cell_alloc c3 (by omega) _)
    replace zc3 := lt_cell c3 (by simp)
    replace bb : Below v.heap.size v w11 := Below.trans (by (repeat (first | with_reducible exact Below.refl _ _ | with_reducible assumption | ((with_reducible refine Bw.set ?_ ?_); rotate_left; focus omega) | ((with_reducible refine Bw.al ?_ ?_); rotate_left; focus (first | omega | (simp; done) | (simp; omega))) | with_reducible refine Below.drew ?_ | with_reducible refine Bw.dr ?_ _))) (hb1.mono (by first | omega | (simp; omega)))
    have zb := bb.size
    clear hb1
    go_wp2_with fail
    (with_reducible refine (R4.out _).mono ?_)
    rintro e w12 ⟨rfl, hb1⟩
    first | replace c1 := cell_kept hb1 (by first | omega | (simp; omega)) c1 | replace c1 := cell_kept hb1 (by first | omega | (simp; omega)) (cell_alloc c1 (by omega) _)
    replace zc1 := lt_cell c1 (by simp)
    first | replace c2 := cell_kept hb1 (by first | omega | (simp; omega)) c2 | replace c2 := cell_kept hb1 (by first | omega | (simp; omega)) (cell_alloc c2 (by omega) _)
    replace zc2 := lt_cell c2 (by simp)
    first | replace c3 := cell_kept hb1 (by first | omega | (simp; omega)) c3 | replace c3 := cell_kept hb1 (by first | omega | (simp; omega)) (cell_alloc c3 (by omega) _)
    replace zc3 := lt_cell c3 (by simp)
    replace bb : Below v.heap.size v w12 := Below.trans (by (repeat (first | with_reducible exact Below.refl _ _ | with_reducible assumption | ((with_reducible refine Bw.set ?_ ?_); rotate_left; focus omega) | ((with_reducible refine Bw.al ?_ ?_); rotate_left; focus (first | omega | (simp; done) | (simp; omega))) | with_reducible refine Below.drew ?_ | with_reducible refine Bw.dr ?_ _))) (hb1.mono (by first | omega | (simp; omega)))
    have zb := bb.size
    clear hb1
    go_upto_region 18 with fail
    replace c1 := cell_alloc c1 (by omega) (.cells #[Value.int .i64 h, Value.int .i64 l, Value.int .i64 r, Value.int .i64 lo, Value.int .i64 ro] 33)
    replace zc1 := lt_cell c1 (by simp)
    replace c2 := cell_alloc c2 (by omega) (.cells #[Value.int .i64 h, Value.int .i64 l, Value.int .i64 r, Value.int .i64 lo, Value.int .i64 ro] 33)
    replace zc2 := lt_cell c2 (by simp)
    replace c3 := cell_alloc c3 (by omega) (.cells #[Value.int .i64 h, Value.int .i64 l, Value.int .i64 r, Value.int .i64 lo, Value.int .i64 ro] 33)
    replace zc3 := lt_cell c3 (by simp)
    have c4 := cell_new w12 #[Value.int .i64 h, Value.int .i64 l, Value.int .i64 r, Value.int .i64 lo, Value.int .i64 ro] 33
    replace bb : Below v.heap.size v (w12.alloc (.cells #[Value.int .i64 h, Value.int .i64 l, Value.int .i64 r, Value.int .i64 lo, Value.int .i64 ro] 33)) := bb.alloc (by omega) _
    have zc4 := lt_cell c4 (by simp)
    generalize w12.alloc (.cells #[Value.int .i64 h, Value.int .i64 l, Value.int .i64 r, Value.int .i64 lo, Value.int .i64 ro] 33) = w13 at *
    generalize w12.heap.size = b4 at *
    have zb := bb.size
    go_wp2_with fail
    go_ret
    exact ⟨rfl, bb⟩
  · rw [hv] at IA
    replace IA := Lib.hid IA
    clear hrd
    have e2 := et.out
    rw [hbF_n hv] at e2
    obtain ⟨rfl, rfl⟩ := Prod.mk.inj e2
    clear e2 et hv
    go_wp2_with fail
    (with_reducible refine (IA.out _).mono ?_)
    rintro e w10 ⟨rfl, hb1⟩
    first | replace c1 := cell_kept hb1 (by first | omega | (simp; omega)) c1 | replace c1 := cell_kept hb1 (by first | omega | (simp; omega)) (cell_alloc c1 (by omega) _)
    replace zc1 := lt_cell c1 (by simp)
    first | replace c2 := cell_kept hb1 (by first | omega | (simp; omega)) c2 | replace c2 := cell_kept hb1 (by first | omega | (simp; omega)) (cell_alloc c2 (by omega) _)
    replace zc2 := lt_cell c2 (by simp)
    first | replace c3 := cell_kept hb1 (by first | omega | (simp; omega)) c3 | replace c3 := cell_kept hb1 (by first | omega | (simp; omega)) (cell_alloc c3 (by omega) _)
    replace zc3 := lt_cell c3 (by simp)
    replace bb : Below v.heap.size v w10 := Below.trans (by (repeat (first | with_reducible exact Below.refl _ _ | with_reducible assumption | ((with_reducible refine Bw.set ?_ ?_); rotate_left; focus omega) | ((with_reducible refine Bw.al ?_ ?_); rotate_left; focus (first | omega | (simp; done) | (simp; omega))) | with_reducible refine Below.drew ?_ | with_reducible refine Bw.dr ?_ _))) (hb1.mono (by first | omega | (simp; omega)))
    have zb := bb.size
    clear hb1
    go_wp2_with fail
    go_ret
    exact ⟨rfl, bb⟩
  · rw [hv] at IA
    replace IA := Lib.hid IA
    clear hrd
    have e2 := et.out
    rw [hbF_y hv] at e2
    obtain ⟨e3, rfl⟩ := Prod.mk.inj e2
    have R4 := Lib.hid (fun w => impl_ReadHub_at (s := t) w (by have := hbB_size hv; rw [e3] at this; omega) (show RdHub t h l r lo ro 0 from e3 ▸ hub_read hv))
    clear e2 e3 et hv
    go_wp2_with fail
    (with_reducible refine (IA.out _).mono ?_)
    rintro e w10 ⟨rfl, hb1⟩
    first | replace c1 := cell_kept hb1 (by first | omega | (simp; omega)) c1 | replace c1 := cell_kept hb1 (by first | omega | (simp; omega)) (cell_alloc c1 (by omega) _)
    replace zc1 := lt_cell c1 (by simp)
    first | replace c2 := cell_kept hb1 (by first | omega | (simp; omega)) c2 | replace c2 := cell_kept hb1 (by first | omega | (simp; omega)) (cell_alloc c2 (by omega) _)
    replace zc2 := lt_cell c2 (by simp)
    first | replace c3 := cell_kept hb1 (by first | omega | (simp; omega)) c3 | replace c3 := cell_kept hb1 (by first | omega | (simp; omega)) (cell_alloc c3 (by omega) _)
    replace zc3 := lt_cell c3 (by simp)
    replace bb : Below v.heap.size v w10 := Below.trans (by (repeat (first | with_reducible exact Below.refl _ _ | with_reducible assumption | ((with_reducible refine Bw.set ?_ ?_); rotate_left; focus omega) | ((with_reducible refine Bw.al ?_ ?_); rotate_left; focus (first | omega | (simp; done) | (simp; omega))) | with_reducible refine Below.drew ?_ | with_reducible refine Bw.dr ?_ _))) (hb1.mono (by first | omega | (simp; omega)))
    have zb := bb.size
    clear hb1
    go_wp2_with fail
    (with_reducible refine (R4.out _).mono ?_)
    rintro e w12 ⟨rfl, hb1⟩
    first | replace c1 := cell_kept hb1 (by first | omega | (simp; omega)) c1 | replace c1 := cell_kept hb1 (by first | omega | (simp; omega)) (cell_alloc c1 (by omega) _)
    replace zc1 := lt_cell c1 (by simp)
    first | replace c2 := cell_kept hb1 (by first | omega | (simp; omega)) c2 | replace c2 := cell_kept hb1 (by first | omega | (simp; omega)) (cell_alloc c2 (by omega) _)
    replace zc2 := lt_cell c2 (by simp)
    first | replace c3 := cell_kept hb1 (by first | omega | (simp; omega)) c3 | replace c3 := cell_kept hb1 (by first | omega | (simp; omega)) (cell_alloc c3 (by omega) _)
    replace zc3 := lt_cell c3 (by simp)
    replace bb : Below v.heap.size v w12 := Below.trans (by (repeat (first | with_reducible exact Below.refl _ _ | with_reducible assumption | ((with_reducible refine Bw.set ?_ ?_); rotate_left; focus omega) | ((with_reducible refine Bw.al ?_ ?_); rotate_left; focus (first | omega | (simp; done) | (simp; omega))) | with_reducible refine Below.drew ?_ | with_reducible refine Bw.dr ?_ _))) (hb1.mono (by first | omega | (simp; omega)))
    have zb := bb.size
    clear hb1
    go_upto_region 18 with fail
    replace c1 := cell_alloc c1 (by omega) (.cells #[Value.int .i64 h, Value.int .i64 l, Value.int .i64 r, Value.int .i64 lo, Value.int .i64 ro] 33)
    replace zc1 := lt_cell c1 (by simp)
    replace c2 := cell_alloc c2 (by omega) (.cells #[Value.int .i64 h, Value.int .i64 l, Value.int .i64 r, Value.int .i64 lo, Value.int .i64 ro] 33)
    replace zc2 := lt_cell c2 (by simp)
    replace c3 := cell_alloc c3 (by omega) (.cells #[Value.int .i64 h, Value.int .i64 l, Value.int .i64 r, Value.int .i64 lo, Value.int .i64 ro] 33)
    replace zc3 := lt_cell c3 (by simp)
    have c4 := cell_new w12 #[Value.int .i64 h, Value.int .i64 l, Value.int .i64 r, Value.int .i64 lo, Value.int .i64 ro] 33
    replace bb : Below v.heap.size v (w12.alloc (.cells #[Value.int .i64 h, Value.int .i64 l, Value.int .i64 r, Value.int .i64 lo, Value.int .i64 ro] 33)) := bb.alloc (by omega) _
    have zc4 := lt_cell c4 (by simp)
    generalize w12.alloc (.cells #[Value.int .i64 h, Value.int .i64 l, Value.int .i64 r, Value.int .i64 lo, Value.int .i64 ro] 33) = w13 at *
    generalize w12.heap.size = b4 at *
    have zb := bb.size
    go_wp2_with fail
    go_ret
    exact ⟨rfl, bb⟩

end Go.Proofs.Ytpejbmfapdocaaa
