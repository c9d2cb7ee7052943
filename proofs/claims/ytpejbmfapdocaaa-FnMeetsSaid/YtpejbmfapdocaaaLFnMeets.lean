/- The law FnMeets, walked: it returns true and leaves old memory alone. Condition: the code reads as bytes. -/
import Derived.Test.YtpejbmfapdocaaaDrJ
import Derived.Test.YtpejbmfapdocaaaDrL
import Derived.Test.YtpejbmfapdocaaaIvMeet
import Derived.Test.YtpejbmfapdocaaaIvHull
import Derived.Test.YtpejbmfapdocaaaIvLess
namespace Go.Proofs.Ytpejbmfapdocaaa
open Go.RowKit

/-- The three ways of two pairs of ends. -/
theorem meets_ways (a b c d : Int) : ((isIv a b && isIv c d) = false ∧ meetIv a b c d = (0, 0, 1) ∧ hullIv a b c d = (0, 0, 1) ∧ lessC a b c d = 1 ∧ lessB a b c d = false) ∨
    (∃ m1 m2 h1 h2, meetIv a b c d = (m1, m2, 0) ∧ hullIv a b c d = (h1, h2, 0) ∧ lessC a b c d = 0 ∧ lessB a b c d = false ∧ lessC c d a b = 0 ∧ lessB c d a b = false ∧ a ≤ b ∧ c ≤ d ∧
      a ≤ m1 ∧ c ≤ m1 ∧ m1 ≤ m2 ∧ m2 ≤ b ∧ m2 ≤ d ∧ h1 ≤ a ∧ h1 ≤ c ∧ b ≤ h2 ∧ d ≤ h2) ∨
    (∃ x h1 h2, meetIv a b c d = (0, 0, 5) ∧ hullIv a b c d = (h1, h2, 0) ∧ lessC a b c d = 0 ∧ lessB a b c d = x ∧ lessC c d a b = 0 ∧ lessB c d a b = !x ∧ a ≤ b ∧ c ≤ d ∧ h1 ≤ a ∧ h1 ≤ c ∧ b ≤ h2 ∧ d ≤ h2) := by
  rcases k1 : isIv a b with _ | _
  · exact .inl ⟨rfl, by simp [meetIv, k1], by simp [hullIv, k1], by simp [lessC, k1], by simp [lessB, k1]⟩
  rcases k2 : isIv c d with _ | _
  · exact .inl ⟨rfl, by simp [meetIv, k2], by simp [hullIv, k2], by simp [lessC, k2], by simp [lessB, k2]⟩
  obtain ⟨p1, p2, p3⟩ := isIv_t k1
  obtain ⟨q1, q2, q3⟩ := isIv_t k2
  by_cases h : max a c ≤ min b d
  · refine .inr (.inl ⟨max a c, min b d, min a c, max b d, by rw [meetIv, k1, k2]; simp only [Bool.and_self, if_true]; rw [if_pos h], by rw [hullIv, k1, k2]; rfl, by simp [lessC, k1, k2], ?_, by simp [lessC, k1, k2], ?_, by omega, by omega, by omega, by omega, h, by omega, by omega, by omega, by omega, by omega, by omega⟩)
    · simp only [lessB, k1, k2, Bool.and_self, Bool.true_and]; exact decide_eq_false (by omega)
    · simp only [lessB, k1, k2, Bool.and_self, Bool.true_and]; exact decide_eq_false (by omega)
  · refine .inr (.inr ⟨decide (b < c), min a c, max b d, by rw [meetIv, k1, k2]; simp only [Bool.and_self, if_true]; rw [if_neg h], by rw [hullIv, k1, k2]; rfl, by simp [lessC, k1, k2], by simp [lessB, k1, k2], by simp [lessC, k1, k2], ?_, by omega, by omega, by omega, by omega, by omega, by omega⟩)
    simp only [lessB, k1, k2, Bool.and_self, Bool.true_and]
    by_cases e : b < c
    · rw [decide_eq_false (by omega), decide_eq_true e]; rfl
    · rw [decide_eq_true (by omega), decide_eq_false e]; rfl
set_option maxRecDepth 100000 in
set_option maxHeartbeats 8000000 in
theorem law_FnMeets (A : Option Addr) (cap : Nat) (us : List Int) (v : World) (hr : Rd v v.heap.size A (bv us)) (hm : us.length ≤ maxLen) (hby : ∀ k, 0 ≤ us.getD k 0 ∧ us.getD k 0 ≤ 255) :
    Calls Try.prog 5 #[.slice A us.length cap] v fun e w' => e = .returned (.bool true) ∧ Below v.heap.size v w' := by
  unfold maxLen at hm
  by_cases hl : 4096 < us.length
  · have hl2 := Lib.hid (show decide (4096 < (us.length : Int)) = true from decide_eq_true (by omega))
    go_enter Try.func5, Try.ntmps5
    go_wp2_with fail
    (with_reducible refine (big_any A us.length cap true _ hl2.out (by unfold maxLen; omega)).mono ?_)
    rintro e w ⟨rfl, rfl⟩
    go_wp2_with fail
    go_ret
    exact ⟨rfl, Below.refl _ _⟩
  have hl2 := Lib.hid (show decide (4096 < (us.length : Int)) = false from decide_eq_false (by omega))
  have HU := Lib.hid (show Code us from ⟨by omega, hby⟩)
  have HR := Lib.hid hr
  have HL := Lib.hid (show us.length ≤ maxLen by unfold maxLen; omega)
  clear hr hm hby hl
  have bb := Below.refl v.heap.size v
  have zb := bb.size
  go_enter Try.func5, Try.ntmps5
  go_wp2_with fail
  (with_reducible refine (big_any A us.length cap false _ hl2.out HL.out).mono ?_)
  rintro e w ⟨rfl, rfl⟩
  go_wp2_with fail
  (with_reducible refine (spec_DrawMeetIntervals _ _ us _ HU.out HR.out).mono ?_)
  rintro e w1 ⟨a, b, c, d, rfl, hb1⟩
  replace bb := hb1
  replace zb := hb1.size
  clear hb1
  have M1 := fun w => impl_MeetIntervals a b c d w
  have M2 := fun w => spec_MeetIntervals a b c d w
  have U1 := fun w => impl_HullOf a b c d w
  have U2 := fun w => spec_HullOf a b c d w
  have L1 := fun w => impl_IsSurelyLess a b c d w
  have L2 := fun w => spec_IsSurelyLess a b c d w
  have L3 := fun w => impl_IsSurelyLess c d a b w
  go_upto_region 4 with fail
  obtain ⟨c1, _, c2, _, _, _⟩ := kept2 (w := w1) (A := #[Value.int .i64 a, Value.int .i64 b]) (C := #[Value.int .i64 c, Value.int .i64 d]) (ta := 40) (tc := 40) (Below.refl _ _)
  replace bb : Below v.heap.size v ((w1.alloc (.cells #[Value.int .i64 a, Value.int .i64 b] 40)).alloc (.cells #[Value.int .i64 c, Value.int .i64 d] 40)) := by (repeat (first | with_reducible exact Below.refl _ _ | with_reducible assumption | ((with_reducible refine Bw.set ?_ ?_); rotate_left; focus omega) | ((with_reducible refine Bw.al ?_ ?_); rotate_left; focus (first | omega | (simp; done) | (simp; omega))) | with_reducible refine Below.drew ?_ | with_reducible refine Bw.dr ?_ _))
  have zc1 := lt_cell c1 (by simp)
  have zc2 := lt_cell c2 (by simp)
  generalize (w1.alloc (.cells #[Value.int .i64 a, Value.int .i64 b] 40)).alloc (.cells #[Value.int .i64 c, Value.int .i64 d] 40) = w2 at *
  replace zb := bb.size
  generalize w1.heap.size = b1 at *
  rcases meets_ways a b c d with ⟨_, e1, e2, e3, e4⟩ | ⟨m1, m2, h1, h2, e1, e2, e3, e4, e5, e6, f1, f2, f3, f4, f5, f6, f7, f8, f9, f10, f11⟩ | ⟨x, h1, h2, e1, e2, e3, e4, e5, e6, f1, f2, f8, f9, f10, f11⟩
  · simp only [e1, e2, e3, e4] at M1 M2 U1 U2 L1 L2
    clear L3 e1 e2 e3 e4
    replace M1 := Lib.hid M1
    replace M2 := Lib.hid M2
    replace U1 := Lib.hid U1
    replace U2 := Lib.hid U2
    replace L1 := Lib.hid L1
    replace L2 := Lib.hid L2
    go_wp2_with fail
    (with_reducible refine (M1.out _).mono ?_)
    rintro e w3 ⟨rfl, hb1⟩
    first | replace c1 := cell_kept hb1 (by first | omega | (simp; omega)) c1 | replace c1 := cell_kept hb1 (by first | omega | (simp; omega)) (cell_alloc c1 (by omega) _)
    replace zc1 := lt_cell c1 (by simp)
    first | replace c2 := cell_kept hb1 (by first | omega | (simp; omega)) c2 | replace c2 := cell_kept hb1 (by first | omega | (simp; omega)) (cell_alloc c2 (by omega) _)
    replace zc2 := lt_cell c2 (by simp)
    replace bb : Below v.heap.size v w3 := Below.trans (by (repeat (first | with_reducible exact Below.refl _ _ | with_reducible assumption | ((with_reducible refine Bw.set ?_ ?_); rotate_left; focus omega) | ((with_reducible refine Bw.al ?_ ?_); rotate_left; focus (first | omega | (simp; done) | (simp; omega))) | with_reducible refine Below.drew ?_ | with_reducible refine Bw.dr ?_ _))) (hb1.mono (by first | omega | (simp; omega)))
    have zb := bb.size
    clear hb1
    go_upto_region 5 with fail
    replace c1 := cell_alloc c1 (by omega) (.cells #[Value.int .i64 0, Value.int .i64 0] 40)
    replace zc1 := lt_cell c1 (by simp)
    replace c2 := cell_alloc c2 (by omega) (.cells #[Value.int .i64 0, Value.int .i64 0] 40)
    replace zc2 := lt_cell c2 (by simp)
    have c3 := cell_new w3 #[Value.int .i64 0, Value.int .i64 0] 40
    replace bb : Below v.heap.size v (w3.alloc (.cells #[Value.int .i64 0, Value.int .i64 0] 40)) := bb.alloc (by omega) _
    have zc3 := lt_cell c3 (by simp)
    generalize w3.alloc (.cells #[Value.int .i64 0, Value.int .i64 0] 40) = w4 at *
    generalize w3.heap.size = b3 at *
    have zb := bb.size
    go_wp2_with fail
    (with_reducible refine (M2.out _).mono ?_)
    rintro e w5 ⟨rfl, hb1⟩
    first | replace c1 := cell_kept hb1 (by first | omega | (simp; omega)) c1 | replace c1 := cell_kept hb1 (by first | omega | (simp; omega)) (cell_alloc c1 (by omega) _)
    replace zc1 := lt_cell c1 (by simp)
    first | replace c2 := cell_kept hb1 (by first | omega | (simp; omega)) c2 | replace c2 := cell_kept hb1 (by first | omega | (simp; omega)) (cell_alloc c2 (by omega) _)
    replace zc2 := lt_cell c2 (by simp)
    first | replace c3 := cell_kept hb1 (by first | omega | (simp; omega)) c3 | replace c3 := cell_kept hb1 (by first | omega | (simp; omega)) (cell_alloc c3 (by omega) _)
    replace zc3 := lt_cell c3 (by simp)
    replace bb : Below v.heap.size v w5 := Below.trans (by (repeat (first | with_reducible exact Below.refl _ _ | with_reducible assumption | ((with_reducible refine Bw.set ?_ ?_); rotate_left; focus omega) | ((with_reducible refine Bw.al ?_ ?_); rotate_left; focus (first | omega | (simp; done) | (simp; omega))) | with_reducible refine Below.drew ?_ | with_reducible refine Bw.dr ?_ _))) (hb1.mono (by first | omega | (simp; omega)))
    have zb := bb.size
    clear hb1
    go_upto_region 6 with fail
    replace c1 := cell_alloc c1 (by omega) (.cells #[Value.int .i64 0, Value.int .i64 0] 40)
    replace zc1 := lt_cell c1 (by simp)
    replace c2 := cell_alloc c2 (by omega) (.cells #[Value.int .i64 0, Value.int .i64 0] 40)
    replace zc2 := lt_cell c2 (by simp)
    replace c3 := cell_alloc c3 (by omega) (.cells #[Value.int .i64 0, Value.int .i64 0] 40)
    replace zc3 := lt_cell c3 (by simp)
    have c4 := cell_new w5 #[Value.int .i64 0, Value.int .i64 0] 40
    replace bb : Below v.heap.size v (w5.alloc (.cells #[Value.int .i64 0, Value.int .i64 0] 40)) := bb.alloc (by omega) _
    have zc4 := lt_cell c4 (by simp)
    generalize w5.alloc (.cells #[Value.int .i64 0, Value.int .i64 0] 40) = w6 at *
    generalize w5.heap.size = b4 at *
    have zb := bb.size
    go_wp2_with fail
    (with_reducible refine (U1.out _).mono ?_)
    rintro e w7 ⟨rfl, hb1⟩
    first | replace c1 := cell_kept hb1 (by first | omega | (simp; omega)) c1 | replace c1 := cell_kept hb1 (by first | omega | (simp; omega)) (cell_alloc c1 (by omega) _)
    replace zc1 := lt_cell c1 (by simp)
    first | replace c2 := cell_kept hb1 (by first | omega | (simp; omega)) c2 | replace c2 := cell_kept hb1 (by first | omega | (simp; omega)) (cell_alloc c2 (by omega) _)
    replace zc2 := lt_cell c2 (by simp)
    first | replace c3 := cell_kept hb1 (by first | omega | (simp; omega)) c3 | replace c3 := cell_kept hb1 (by first | omega | (simp; omega)) (cell_alloc c3 (by omega) _)
    replace zc3 := lt_cell c3 (by simp)
    first | replace c4 := cell_kept hb1 (by first | omega | (simp; omega)) c4 | replace c4 := cell_kept hb1 (by first | omega | (simp; omega)) (cell_alloc c4 (by omega) _)
    replace zc4 := lt_cell c4 (by simp)
    replace bb : Below v.heap.size v w7 := Below.trans (by (repeat (first | with_reducible exact Below.refl _ _ | with_reducible assumption | ((with_reducible refine Bw.set ?_ ?_); rotate_left; focus omega) | ((with_reducible refine Bw.al ?_ ?_); rotate_left; focus (first | omega | (simp; done) | (simp; omega))) | with_reducible refine Below.drew ?_ | with_reducible refine Bw.dr ?_ _))) (hb1.mono (by first | omega | (simp; omega)))
    have zb := bb.size
    clear hb1
    go_upto_region 7 with fail
    replace c1 := cell_alloc c1 (by omega) (.cells #[Value.int .i64 0, Value.int .i64 0] 40)
    replace zc1 := lt_cell c1 (by simp)
    replace c2 := cell_alloc c2 (by omega) (.cells #[Value.int .i64 0, Value.int .i64 0] 40)
    replace zc2 := lt_cell c2 (by simp)
    replace c3 := cell_alloc c3 (by omega) (.cells #[Value.int .i64 0, Value.int .i64 0] 40)
    replace zc3 := lt_cell c3 (by simp)
    replace c4 := cell_alloc c4 (by omega) (.cells #[Value.int .i64 0, Value.int .i64 0] 40)
    replace zc4 := lt_cell c4 (by simp)
    have c5 := cell_new w7 #[Value.int .i64 0, Value.int .i64 0] 40
    replace bb : Below v.heap.size v (w7.alloc (.cells #[Value.int .i64 0, Value.int .i64 0] 40)) := bb.alloc (by omega) _
    have zc5 := lt_cell c5 (by simp)
    generalize w7.alloc (.cells #[Value.int .i64 0, Value.int .i64 0] 40) = w8 at *
    generalize w7.heap.size = b5 at *
    have zb := bb.size
    go_wp2_with fail
    (with_reducible refine (U2.out _).mono ?_)
    rintro e w9 ⟨rfl, hb1⟩
    first | replace c1 := cell_kept hb1 (by first | omega | (simp; omega)) c1 | replace c1 := cell_kept hb1 (by first | omega | (simp; omega)) (cell_alloc c1 (by omega) _)
    replace zc1 := lt_cell c1 (by simp)
    first | replace c2 := cell_kept hb1 (by first | omega | (simp; omega)) c2 | replace c2 := cell_kept hb1 (by first | omega | (simp; omega)) (cell_alloc c2 (by omega) _)
    replace zc2 := lt_cell c2 (by simp)
    first | replace c3 := cell_kept hb1 (by first | omega | (simp; omega)) c3 | replace c3 := cell_kept hb1 (by first | omega | (simp; omega)) (cell_alloc c3 (by omega) _)
    replace zc3 := lt_cell c3 (by simp)
    first | replace c4 := cell_kept hb1 (by first | omega | (simp; omega)) c4 | replace c4 := cell_kept hb1 (by first | omega | (simp; omega)) (cell_alloc c4 (by omega) _)
    replace zc4 := lt_cell c4 (by simp)
    first | replace c5 := cell_kept hb1 (by first | omega | (simp; omega)) c5 | replace c5 := cell_kept hb1 (by first | omega | (simp; omega)) (cell_alloc c5 (by omega) _)
    replace zc5 := lt_cell c5 (by simp)
    replace bb : Below v.heap.size v w9 := Below.trans (by (repeat (first | with_reducible exact Below.refl _ _ | with_reducible assumption | ((with_reducible refine Bw.set ?_ ?_); rotate_left; focus omega) | ((with_reducible refine Bw.al ?_ ?_); rotate_left; focus (first | omega | (simp; done) | (simp; omega))) | with_reducible refine Below.drew ?_ | with_reducible refine Bw.dr ?_ _))) (hb1.mono (by first | omega | (simp; omega)))
    have zb := bb.size
    clear hb1
    go_upto_region 8 with fail
    replace c1 := cell_alloc c1 (by omega) (.cells #[Value.int .i64 0, Value.int .i64 0] 40)
    replace zc1 := lt_cell c1 (by simp)
    replace c2 := cell_alloc c2 (by omega) (.cells #[Value.int .i64 0, Value.int .i64 0] 40)
    replace zc2 := lt_cell c2 (by simp)
    replace c3 := cell_alloc c3 (by omega) (.cells #[Value.int .i64 0, Value.int .i64 0] 40)
    replace zc3 := lt_cell c3 (by simp)
    replace c4 := cell_alloc c4 (by omega) (.cells #[Value.int .i64 0, Value.int .i64 0] 40)
    replace zc4 := lt_cell c4 (by simp)
    replace c5 := cell_alloc c5 (by omega) (.cells #[Value.int .i64 0, Value.int .i64 0] 40)
    replace zc5 := lt_cell c5 (by simp)
    have c6 := cell_new w9 #[Value.int .i64 0, Value.int .i64 0] 40
    replace bb : Below v.heap.size v (w9.alloc (.cells #[Value.int .i64 0, Value.int .i64 0] 40)) := bb.alloc (by omega) _
    have zc6 := lt_cell c6 (by simp)
    generalize w9.alloc (.cells #[Value.int .i64 0, Value.int .i64 0] 40) = w10 at *
    generalize w9.heap.size = b6 at *
    have zb := bb.size
    go_wp2_with fail
    (with_reducible refine (L1.out _).mono ?_)
    rintro e w11 ⟨rfl, hb1⟩
    first | replace c1 := cell_kept hb1 (by first | omega | (simp; omega)) c1 | replace c1 := cell_kept hb1 (by first | omega | (simp; omega)) (cell_alloc c1 (by omega) _)
    replace zc1 := lt_cell c1 (by simp)
    first | replace c2 := cell_kept hb1 (by first | omega | (simp; omega)) c2 | replace c2 := cell_kept hb1 (by first | omega | (simp; omega)) (cell_alloc c2 (by omega) _)
    replace zc2 := lt_cell c2 (by simp)
    first | replace c3 := cell_kept hb1 (by first | omega | (simp; omega)) c3 | replace c3 := cell_kept hb1 (by first | omega | (simp; omega)) (cell_alloc c3 (by omega) _)
    replace zc3 := lt_cell c3 (by simp)
    first | replace c4 := cell_kept hb1 (by first | omega | (simp; omega)) c4 | replace c4 := cell_kept hb1 (by first | omega | (simp; omega)) (cell_alloc c4 (by omega) _)
    replace zc4 := lt_cell c4 (by simp)
    first | replace c5 := cell_kept hb1 (by first | omega | (simp; omega)) c5 | replace c5 := cell_kept hb1 (by first | omega | (simp; omega)) (cell_alloc c5 (by omega) _)
    replace zc5 := lt_cell c5 (by simp)
    first | replace c6 := cell_kept hb1 (by first | omega | (simp; omega)) c6 | replace c6 := cell_kept hb1 (by first | omega | (simp; omega)) (cell_alloc c6 (by omega) _)
    replace zc6 := lt_cell c6 (by simp)
    replace bb : Below v.heap.size v w11 := Below.trans (by (repeat (first | with_reducible exact Below.refl _ _ | with_reducible assumption | ((with_reducible refine Bw.set ?_ ?_); rotate_left; focus omega) | ((with_reducible refine Bw.al ?_ ?_); rotate_left; focus (first | omega | (simp; done) | (simp; omega))) | with_reducible refine Below.drew ?_ | with_reducible refine Bw.dr ?_ _))) (hb1.mono (by first | omega | (simp; omega)))
    have zb := bb.size
    clear hb1
    go_wp2_with fail
    (with_reducible refine (L2.out _).mono ?_)
    rintro e w12 ⟨rfl, hb1⟩
    first | replace c1 := cell_kept hb1 (by first | omega | (simp; omega)) c1 | replace c1 := cell_kept hb1 (by first | omega | (simp; omega)) (cell_alloc c1 (by omega) _)
    replace zc1 := lt_cell c1 (by simp)
    first | replace c2 := cell_kept hb1 (by first | omega | (simp; omega)) c2 | replace c2 := cell_kept hb1 (by first | omega | (simp; omega)) (cell_alloc c2 (by omega) _)
    replace zc2 := lt_cell c2 (by simp)
    first | replace c3 := cell_kept hb1 (by first | omega | (simp; omega)) c3 | replace c3 := cell_kept hb1 (by first | omega | (simp; omega)) (cell_alloc c3 (by omega) _)
    replace zc3 := lt_cell c3 (by simp)
    first | replace c4 := cell_kept hb1 (by first | omega | (simp; omega)) c4 | replace c4 := cell_kept hb1 (by first | omega | (simp; omega)) (cell_alloc c4 (by omega) _)
    replace zc4 := lt_cell c4 (by simp)
    first | replace c5 := cell_kept hb1 (by first | omega | (simp; omega)) c5 | replace c5 := cell_kept hb1 (by first | omega | (simp; omega)) (cell_alloc c5 (by omega) _)
    replace zc5 := lt_cell c5 (by simp)
    first | replace c6 := cell_kept hb1 (by first | omega | (simp; omega)) c6 | replace c6 := cell_kept hb1 (by first | omega | (simp; omega)) (cell_alloc c6 (by omega) _)
    replace zc6 := lt_cell c6 (by simp)
    replace bb : Below v.heap.size v w12 := Below.trans (by (repeat (first | with_reducible exact Below.refl _ _ | with_reducible assumption | ((with_reducible refine Bw.set ?_ ?_); rotate_left; focus omega) | ((with_reducible refine Bw.al ?_ ?_); rotate_left; focus (first | omega | (simp; done) | (simp; omega))) | with_reducible refine Below.drew ?_ | with_reducible refine Bw.dr ?_ _))) (hb1.mono (by first | omega | (simp; omega)))
    have zb := bb.size
    clear hb1
    go_wp2_with fail
    go_ret
    exact ⟨rfl, bb⟩
  · simp only [e1, e2, e3, e4, e5, e6] at M1 M2 U1 U2 L1 L2 L3
    clear e1 e2 e3 e4 e5 e6
    replace M1 := Lib.hid M1
    replace M2 := Lib.hid M2
    replace U1 := Lib.hid U1
    replace U2 := Lib.hid U2
    replace L1 := Lib.hid L1
    replace L2 := Lib.hid L2
    replace L3 := Lib.hid L3
    go_wp2_with fail
    (with_reducible refine (M1.out _).mono ?_)
    rintro e w3 ⟨rfl, hb1⟩
    first | replace c1 := cell_kept hb1 (by first | omega | (simp; omega)) c1 | replace c1 := cell_kept hb1 (by first | omega | (simp; omega)) (cell_alloc c1 (by omega) _)
    replace zc1 := lt_cell c1 (by simp)
    first | replace c2 := cell_kept hb1 (by first | omega | (simp; omega)) c2 | replace c2 := cell_kept hb1 (by first | omega | (simp; omega)) (cell_alloc c2 (by omega) _)
    replace zc2 := lt_cell c2 (by simp)
    replace bb : Below v.heap.size v w3 := Below.trans (by (repeat (first | with_reducible exact Below.refl _ _ | with_reducible assumption | ((with_reducible refine Bw.set ?_ ?_); rotate_left; focus omega) | ((with_reducible refine Bw.al ?_ ?_); rotate_left; focus (first | omega | (simp; done) | (simp; omega))) | with_reducible refine Below.drew ?_ | with_reducible refine Bw.dr ?_ _))) (hb1.mono (by first | omega | (simp; omega)))
    have zb := bb.size
    clear hb1
    go_upto_region 5 with fail
    replace c1 := cell_alloc c1 (by omega) (.cells #[Value.int .i64 m1, Value.int .i64 m2] 40)
    replace zc1 := lt_cell c1 (by simp)
    replace c2 := cell_alloc c2 (by omega) (.cells #[Value.int .i64 m1, Value.int .i64 m2] 40)
    replace zc2 := lt_cell c2 (by simp)
    have c3 := cell_new w3 #[Value.int .i64 m1, Value.int .i64 m2] 40
    replace bb : Below v.heap.size v (w3.alloc (.cells #[Value.int .i64 m1, Value.int .i64 m2] 40)) := bb.alloc (by omega) _
    have zc3 := lt_cell c3 (by simp)
    generalize w3.alloc (.cells #[Value.int .i64 m1, Value.int .i64 m2] 40) = w4 at *
    generalize w3.heap.size = b3 at *
    have zb := bb.size
    go_wp2_with fail
    (with_reducible refine (M2.out _).mono ?_)
    rintro e w5 ⟨rfl, hb1⟩
    first | replace c1 := cell_kept hb1 (by first | omega | (simp; omega)) c1 | replace c1 := cell_kept hb1 (by first | omega | (simp; omega)) (cell_alloc c1 (by omega) _)
    replace zc1 := lt_cell c1 (by simp)
    first | replace c2 := cell_kept hb1 (by first | omega | (simp; omega)) c2 | replace c2 := cell_kept hb1 (by first | omega | (simp; omega)) (cell_alloc c2 (by omega) _)
    replace zc2 := lt_cell c2 (by simp)
    first | replace c3 := cell_kept hb1 (by first | omega | (simp; omega)) c3 | replace c3 := cell_kept hb1 (by first | omega | (simp; omega)) (cell_alloc c3 (by omega) _)
    replace zc3 := lt_cell c3 (by simp)
    replace bb : Below v.heap.size v w5 := Below.trans (by (repeat (first | with_reducible exact Below.refl _ _ | with_reducible assumption | ((with_reducible refine Bw.set ?_ ?_); rotate_left; focus omega) | ((with_reducible refine Bw.al ?_ ?_); rotate_left; focus (first | omega | (simp; done) | (simp; omega))) | with_reducible refine Below.drew ?_ | with_reducible refine Bw.dr ?_ _))) (hb1.mono (by first | omega | (simp; omega)))
    have zb := bb.size
    clear hb1
    go_upto_region 6 with fail
    replace c1 := cell_alloc c1 (by omega) (.cells #[Value.int .i64 m1, Value.int .i64 m2] 40)
    replace zc1 := lt_cell c1 (by simp)
    replace c2 := cell_alloc c2 (by omega) (.cells #[Value.int .i64 m1, Value.int .i64 m2] 40)
    replace zc2 := lt_cell c2 (by simp)
    replace c3 := cell_alloc c3 (by omega) (.cells #[Value.int .i64 m1, Value.int .i64 m2] 40)
    replace zc3 := lt_cell c3 (by simp)
    have c4 := cell_new w5 #[Value.int .i64 m1, Value.int .i64 m2] 40
    replace bb : Below v.heap.size v (w5.alloc (.cells #[Value.int .i64 m1, Value.int .i64 m2] 40)) := bb.alloc (by omega) _
    have zc4 := lt_cell c4 (by simp)
    generalize w5.alloc (.cells #[Value.int .i64 m1, Value.int .i64 m2] 40) = w6 at *
    generalize w5.heap.size = b4 at *
    have zb := bb.size
    go_wp2_with fail
    (with_reducible refine (U1.out _).mono ?_)
    rintro e w7 ⟨rfl, hb1⟩
    first | replace c1 := cell_kept hb1 (by first | omega | (simp; omega)) c1 | replace c1 := cell_kept hb1 (by first | omega | (simp; omega)) (cell_alloc c1 (by omega) _)
    replace zc1 := lt_cell c1 (by simp)
    first | replace c2 := cell_kept hb1 (by first | omega | (simp; omega)) c2 | replace c2 := cell_kept hb1 (by first | omega | (simp; omega)) (cell_alloc c2 (by omega) _)
    replace zc2 := lt_cell c2 (by simp)
    first | replace c3 := cell_kept hb1 (by first | omega | (simp; omega)) c3 | replace c3 := cell_kept hb1 (by first | omega | (simp; omega)) (cell_alloc c3 (by omega) _)
    replace zc3 := lt_cell c3 (by simp)
    first | replace c4 := cell_kept hb1 (by first | omega | (simp; omega)) c4 | replace c4 := cell_kept hb1 (by first | omega | (simp; omega)) (cell_alloc c4 (by omega) _)
    replace zc4 := lt_cell c4 (by simp)
    replace bb : Below v.heap.size v w7 := Below.trans (by (repeat (first | with_reducible exact Below.refl _ _ | with_reducible assumption | ((with_reducible refine Bw.set ?_ ?_); rotate_left; focus omega) | ((with_reducible refine Bw.al ?_ ?_); rotate_left; focus (first | omega | (simp; done) | (simp; omega))) | with_reducible refine Below.drew ?_ | with_reducible refine Bw.dr ?_ _))) (hb1.mono (by first | omega | (simp; omega)))
    have zb := bb.size
    clear hb1
    go_upto_region 7 with fail
    replace c1 := cell_alloc c1 (by omega) (.cells #[Value.int .i64 h1, Value.int .i64 h2] 40)
    replace zc1 := lt_cell c1 (by simp)
    replace c2 := cell_alloc c2 (by omega) (.cells #[Value.int .i64 h1, Value.int .i64 h2] 40)
    replace zc2 := lt_cell c2 (by simp)
    replace c3 := cell_alloc c3 (by omega) (.cells #[Value.int .i64 h1, Value.int .i64 h2] 40)
    replace zc3 := lt_cell c3 (by simp)
    replace c4 := cell_alloc c4 (by omega) (.cells #[Value.int .i64 h1, Value.int .i64 h2] 40)
    replace zc4 := lt_cell c4 (by simp)
    have c5 := cell_new w7 #[Value.int .i64 h1, Value.int .i64 h2] 40
    replace bb : Below v.heap.size v (w7.alloc (.cells #[Value.int .i64 h1, Value.int .i64 h2] 40)) := bb.alloc (by omega) _
    have zc5 := lt_cell c5 (by simp)
    generalize w7.alloc (.cells #[Value.int .i64 h1, Value.int .i64 h2] 40) = w8 at *
    generalize w7.heap.size = b5 at *
    have zb := bb.size
    go_wp2_with fail
    (with_reducible refine (U2.out _).mono ?_)
    rintro e w9 ⟨rfl, hb1⟩
    first | replace c1 := cell_kept hb1 (by first | omega | (simp; omega)) c1 | replace c1 := cell_kept hb1 (by first | omega | (simp; omega)) (cell_alloc c1 (by omega) _)
    replace zc1 := lt_cell c1 (by simp)
    first | replace c2 := cell_kept hb1 (by first | omega | (simp; omega)) c2 | replace c2 := cell_kept hb1 (by first | omega | (simp; omega)) (cell_alloc c2 (by omega) _)
    replace zc2 := lt_cell c2 (by simp)
    first | replace c3 := cell_kept hb1 (by first | omega | (simp; omega)) c3 | replace c3 := cell_kept hb1 (by first | omega | (simp; omega)) (cell_alloc c3 (by omega) _)
    replace zc3 := lt_cell c3 (by simp)
    first | replace c4 := cell_kept hb1 (by first | omega | (simp; omega)) c4 | replace c4 := cell_kept hb1 (by first | omega | (simp; omega)) (cell_alloc c4 (by omega) _)
    replace zc4 := lt_cell c4 (by simp)
    first | replace c5 := cell_kept hb1 (by first | omega | (simp; omega)) c5 | replace c5 := cell_kept hb1 (by first | omega | (simp; omega)) (cell_alloc c5 (by omega) _)
    replace zc5 := lt_cell c5 (by simp)
    replace bb : Below v.heap.size v w9 := Below.trans (by (repeat (first | with_reducible exact Below.refl _ _ | with_reducible assumption | ((with_reducible refine Bw.set ?_ ?_); rotate_left; focus omega) | ((with_reducible refine Bw.al ?_ ?_); rotate_left; focus (first | omega | (simp; done) | (simp; omega))) | with_reducible refine Below.drew ?_ | with_reducible refine Bw.dr ?_ _))) (hb1.mono (by first | omega | (simp; omega)))
    have zb := bb.size
    clear hb1
    go_upto_region 8 with fail
    replace c1 := cell_alloc c1 (by omega) (.cells #[Value.int .i64 h1, Value.int .i64 h2] 40)
    replace zc1 := lt_cell c1 (by simp)
    replace c2 := cell_alloc c2 (by omega) (.cells #[Value.int .i64 h1, Value.int .i64 h2] 40)
    replace zc2 := lt_cell c2 (by simp)
    replace c3 := cell_alloc c3 (by omega) (.cells #[Value.int .i64 h1, Value.int .i64 h2] 40)
    replace zc3 := lt_cell c3 (by simp)
    replace c4 := cell_alloc c4 (by omega) (.cells #[Value.int .i64 h1, Value.int .i64 h2] 40)
    replace zc4 := lt_cell c4 (by simp)
    replace c5 := cell_alloc c5 (by omega) (.cells #[Value.int .i64 h1, Value.int .i64 h2] 40)
    replace zc5 := lt_cell c5 (by simp)
    have c6 := cell_new w9 #[Value.int .i64 h1, Value.int .i64 h2] 40
    replace bb : Below v.heap.size v (w9.alloc (.cells #[Value.int .i64 h1, Value.int .i64 h2] 40)) := bb.alloc (by omega) _
    have zc6 := lt_cell c6 (by simp)
    generalize w9.alloc (.cells #[Value.int .i64 h1, Value.int .i64 h2] 40) = w10 at *
    generalize w9.heap.size = b6 at *
    have zb := bb.size
    go_wp2_with fail
    (with_reducible refine (L1.out _).mono ?_)
    rintro e w11 ⟨rfl, hb1⟩
    first | replace c1 := cell_kept hb1 (by first | omega | (simp; omega)) c1 | replace c1 := cell_kept hb1 (by first | omega | (simp; omega)) (cell_alloc c1 (by omega) _)
    replace zc1 := lt_cell c1 (by simp)
    first | replace c2 := cell_kept hb1 (by first | omega | (simp; omega)) c2 | replace c2 := cell_kept hb1 (by first | omega | (simp; omega)) (cell_alloc c2 (by omega) _)
    replace zc2 := lt_cell c2 (by simp)
    first | replace c3 := cell_kept hb1 (by first | omega | (simp; omega)) c3 | replace c3 := cell_kept hb1 (by first | omega | (simp; omega)) (cell_alloc c3 (by omega) _)
    replace zc3 := lt_cell c3 (by simp)
    first | replace c4 := cell_kept hb1 (by first | omega | (simp; omega)) c4 | replace c4 := cell_kept hb1 (by first | omega | (simp; omega)) (cell_alloc c4 (by omega) _)
    replace zc4 := lt_cell c4 (by simp)
    first | replace c5 := cell_kept hb1 (by first | omega | (simp; omega)) c5 | replace c5 := cell_kept hb1 (by first | omega | (simp; omega)) (cell_alloc c5 (by omega) _)
    replace zc5 := lt_cell c5 (by simp)
    first | replace c6 := cell_kept hb1 (by first | omega | (simp; omega)) c6 | replace c6 := cell_kept hb1 (by first | omega | (simp; omega)) (cell_alloc c6 (by omega) _)
    replace zc6 := lt_cell c6 (by simp)
    replace bb : Below v.heap.size v w11 := Below.trans (by (repeat (first | with_reducible exact Below.refl _ _ | with_reducible assumption | ((with_reducible refine Bw.set ?_ ?_); rotate_left; focus omega) | ((with_reducible refine Bw.al ?_ ?_); rotate_left; focus (first | omega | (simp; done) | (simp; omega))) | with_reducible refine Below.drew ?_ | with_reducible refine Bw.dr ?_ _))) (hb1.mono (by first | omega | (simp; omega)))
    have zb := bb.size
    clear hb1
    go_wp2_with fail
    (with_reducible refine (L2.out _).mono ?_)
    rintro e w12 ⟨rfl, hb1⟩
    first | replace c1 := cell_kept hb1 (by first | omega | (simp; omega)) c1 | replace c1 := cell_kept hb1 (by first | omega | (simp; omega)) (cell_alloc c1 (by omega) _)
    replace zc1 := lt_cell c1 (by simp)
    first | replace c2 := cell_kept hb1 (by first | omega | (simp; omega)) c2 | replace c2 := cell_kept hb1 (by first | omega | (simp; omega)) (cell_alloc c2 (by omega) _)
    replace zc2 := lt_cell c2 (by simp)
    first | replace c3 := cell_kept hb1 (by first | omega | (simp; omega)) c3 | replace c3 := cell_kept hb1 (by first | omega | (simp; omega)) (cell_alloc c3 (by omega) _)
    replace zc3 := lt_cell c3 (by simp)
    first | replace c4 := cell_kept hb1 (by first | omega | (simp; omega)) c4 | replace c4 := cell_kept hb1 (by first | omega | (simp; omega)) (cell_alloc c4 (by omega) _)
    replace zc4 := lt_cell c4 (by simp)
    first | replace c5 := cell_kept hb1 (by first | omega | (simp; omega)) c5 | replace c5 := cell_kept hb1 (by first | omega | (simp; omega)) (cell_alloc c5 (by omega) _)
    replace zc5 := lt_cell c5 (by simp)
    first | replace c6 := cell_kept hb1 (by first | omega | (simp; omega)) c6 | replace c6 := cell_kept hb1 (by first | omega | (simp; omega)) (cell_alloc c6 (by omega) _)
    replace zc6 := lt_cell c6 (by simp)
    replace bb : Below v.heap.size v w12 := Below.trans (by (repeat (first | with_reducible exact Below.refl _ _ | with_reducible assumption | ((with_reducible refine Bw.set ?_ ?_); rotate_left; focus omega) | ((with_reducible refine Bw.al ?_ ?_); rotate_left; focus (first | omega | (simp; done) | (simp; omega))) | with_reducible refine Below.drew ?_ | with_reducible refine Bw.dr ?_ _))) (hb1.mono (by first | omega | (simp; omega)))
    have zb := bb.size
    clear hb1
    go_wp2_with fail
    (with_reducible refine (L3.out _).mono ?_)
    rintro e w13 ⟨rfl, hb1⟩
    first | replace c1 := cell_kept hb1 (by first | omega | (simp; omega)) c1 | replace c1 := cell_kept hb1 (by first | omega | (simp; omega)) (cell_alloc c1 (by omega) _)
    replace zc1 := lt_cell c1 (by simp)
    first | replace c2 := cell_kept hb1 (by first | omega | (simp; omega)) c2 | replace c2 := cell_kept hb1 (by first | omega | (simp; omega)) (cell_alloc c2 (by omega) _)
    replace zc2 := lt_cell c2 (by simp)
    first | replace c3 := cell_kept hb1 (by first | omega | (simp; omega)) c3 | replace c3 := cell_kept hb1 (by first | omega | (simp; omega)) (cell_alloc c3 (by omega) _)
    replace zc3 := lt_cell c3 (by simp)
    first | replace c4 := cell_kept hb1 (by first | omega | (simp; omega)) c4 | replace c4 := cell_kept hb1 (by first | omega | (simp; omega)) (cell_alloc c4 (by omega) _)
    replace zc4 := lt_cell c4 (by simp)
    first | replace c5 := cell_kept hb1 (by first | omega | (simp; omega)) c5 | replace c5 := cell_kept hb1 (by first | omega | (simp; omega)) (cell_alloc c5 (by omega) _)
    replace zc5 := lt_cell c5 (by simp)
    first | replace c6 := cell_kept hb1 (by first | omega | (simp; omega)) c6 | replace c6 := cell_kept hb1 (by first | omega | (simp; omega)) (cell_alloc c6 (by omega) _)
    replace zc6 := lt_cell c6 (by simp)
    replace bb : Below v.heap.size v w13 := Below.trans (by (repeat (first | with_reducible exact Below.refl _ _ | with_reducible assumption | ((with_reducible refine Bw.set ?_ ?_); rotate_left; focus omega) | ((with_reducible refine Bw.al ?_ ?_); rotate_left; focus (first | omega | (simp; done) | (simp; omega))) | with_reducible refine Below.drew ?_ | with_reducible refine Bw.dr ?_ _))) (hb1.mono (by first | omega | (simp; omega)))
    have zb := bb.size
    clear hb1
    go_wp2_with fail
    (with_reducible refine (inside_t _ _ _ _ (by omega) (by omega)).mono ?_)
    rintro e w14 ⟨rfl, hb1⟩
    first | replace c1 := cell_kept hb1 (by first | omega | (simp; omega)) c1 | replace c1 := cell_kept hb1 (by first | omega | (simp; omega)) (cell_alloc c1 (by omega) _)
    replace zc1 := lt_cell c1 (by simp)
    first | replace c2 := cell_kept hb1 (by first | omega | (simp; omega)) c2 | replace c2 := cell_kept hb1 (by first | omega | (simp; omega)) (cell_alloc c2 (by omega) _)
    replace zc2 := lt_cell c2 (by simp)
    first | replace c3 := cell_kept hb1 (by first | omega | (simp; omega)) c3 | replace c3 := cell_kept hb1 (by first | omega | (simp; omega)) (cell_alloc c3 (by omega) _)
    replace zc3 := lt_cell c3 (by simp)
    first | replace c4 := cell_kept hb1 (by first | omega | (simp; omega)) c4 | replace c4 := cell_kept hb1 (by first | omega | (simp; omega)) (cell_alloc c4 (by omega) _)
    replace zc4 := lt_cell c4 (by simp)
    first | replace c5 := cell_kept hb1 (by first | omega | (simp; omega)) c5 | replace c5 := cell_kept hb1 (by first | omega | (simp; omega)) (cell_alloc c5 (by omega) _)
    replace zc5 := lt_cell c5 (by simp)
    first | replace c6 := cell_kept hb1 (by first | omega | (simp; omega)) c6 | replace c6 := cell_kept hb1 (by first | omega | (simp; omega)) (cell_alloc c6 (by omega) _)
    replace zc6 := lt_cell c6 (by simp)
    replace bb : Below v.heap.size v w14 := Below.trans (by (repeat (first | with_reducible exact Below.refl _ _ | with_reducible assumption | ((with_reducible refine Bw.set ?_ ?_); rotate_left; focus omega) | ((with_reducible refine Bw.al ?_ ?_); rotate_left; focus (first | omega | (simp; done) | (simp; omega))) | with_reducible refine Below.drew ?_ | with_reducible refine Bw.dr ?_ _))) (hb1.mono (by first | omega | (simp; omega)))
    have zb := bb.size
    clear hb1
    go_wp2_with fail
    (with_reducible refine (inside_t _ _ _ _ (by omega) (by omega)).mono ?_)
    rintro e w15 ⟨rfl, hb1⟩
    first | replace c1 := cell_kept hb1 (by first | omega | (simp; omega)) c1 | replace c1 := cell_kept hb1 (by first | omega | (simp; omega)) (cell_alloc c1 (by omega) _)
    replace zc1 := lt_cell c1 (by simp)
    first | replace c2 := cell_kept hb1 (by first | omega | (simp; omega)) c2 | replace c2 := cell_kept hb1 (by first | omega | (simp; omega)) (cell_alloc c2 (by omega) _)
    replace zc2 := lt_cell c2 (by simp)
    first | replace c3 := cell_kept hb1 (by first | omega | (simp; omega)) c3 | replace c3 := cell_kept hb1 (by first | omega | (simp; omega)) (cell_alloc c3 (by omega) _)
    replace zc3 := lt_cell c3 (by simp)
    first | replace c4 := cell_kept hb1 (by first | omega | (simp; omega)) c4 | replace c4 := cell_kept hb1 (by first | omega | (simp; omega)) (cell_alloc c4 (by omega) _)
    replace zc4 := lt_cell c4 (by simp)
    first | replace c5 := cell_kept hb1 (by first | omega | (simp; omega)) c5 | replace c5 := cell_kept hb1 (by first | omega | (simp; omega)) (cell_alloc c5 (by omega) _)
    replace zc5 := lt_cell c5 (by simp)
    first | replace c6 := cell_kept hb1 (by first | omega | (simp; omega)) c6 | replace c6 := cell_kept hb1 (by first | omega | (simp; omega)) (cell_alloc c6 (by omega) _)
    replace zc6 := lt_cell c6 (by simp)
    replace bb : Below v.heap.size v w15 := Below.trans (by (repeat (first | with_reducible exact Below.refl _ _ | with_reducible assumption | ((with_reducible refine Bw.set ?_ ?_); rotate_left; focus omega) | ((with_reducible refine Bw.al ?_ ?_); rotate_left; focus (first | omega | (simp; done) | (simp; omega))) | with_reducible refine Below.drew ?_ | with_reducible refine Bw.dr ?_ _))) (hb1.mono (by first | omega | (simp; omega)))
    have zb := bb.size
    clear hb1
    go_wp2_with fail
    (with_reducible refine (inside_t _ _ _ _ (by omega) (by omega)).mono ?_)
    rintro e w16 ⟨rfl, hb1⟩
    first | replace c1 := cell_kept hb1 (by first | omega | (simp; omega)) c1 | replace c1 := cell_kept hb1 (by first | omega | (simp; omega)) (cell_alloc c1 (by omega) _)
    replace zc1 := lt_cell c1 (by simp)
    first | replace c2 := cell_kept hb1 (by first | omega | (simp; omega)) c2 | replace c2 := cell_kept hb1 (by first | omega | (simp; omega)) (cell_alloc c2 (by omega) _)
    replace zc2 := lt_cell c2 (by simp)
    first | replace c3 := cell_kept hb1 (by first | omega | (simp; omega)) c3 | replace c3 := cell_kept hb1 (by first | omega | (simp; omega)) (cell_alloc c3 (by omega) _)
    replace zc3 := lt_cell c3 (by simp)
    first | replace c4 := cell_kept hb1 (by first | omega | (simp; omega)) c4 | replace c4 := cell_kept hb1 (by first | omega | (simp; omega)) (cell_alloc c4 (by omega) _)
    replace zc4 := lt_cell c4 (by simp)
    first | replace c5 := cell_kept hb1 (by first | omega | (simp; omega)) c5 | replace c5 := cell_kept hb1 (by first | omega | (simp; omega)) (cell_alloc c5 (by omega) _)
    replace zc5 := lt_cell c5 (by simp)
    first | replace c6 := cell_kept hb1 (by first | omega | (simp; omega)) c6 | replace c6 := cell_kept hb1 (by first | omega | (simp; omega)) (cell_alloc c6 (by omega) _)
    replace zc6 := lt_cell c6 (by simp)
    replace bb : Below v.heap.size v w16 := Below.trans (by (repeat (first | with_reducible exact Below.refl _ _ | with_reducible assumption | ((with_reducible refine Bw.set ?_ ?_); rotate_left; focus omega) | ((with_reducible refine Bw.al ?_ ?_); rotate_left; focus (first | omega | (simp; done) | (simp; omega))) | with_reducible refine Below.drew ?_ | with_reducible refine Bw.dr ?_ _))) (hb1.mono (by first | omega | (simp; omega)))
    have zb := bb.size
    clear hb1
    go_wp2_with fail
    (with_reducible refine (inside_t _ _ _ _ (by omega) (by omega)).mono ?_)
    rintro e w17 ⟨rfl, hb1⟩
    first | replace c1 := cell_kept hb1 (by first | omega | (simp; omega)) c1 | replace c1 := cell_kept hb1 (by first | omega | (simp; omega)) (cell_alloc c1 (by omega) _)
    replace zc1 := lt_cell c1 (by simp)
    first | replace c2 := cell_kept hb1 (by first | omega | (simp; omega)) c2 | replace c2 := cell_kept hb1 (by first | omega | (simp; omega)) (cell_alloc c2 (by omega) _)
    replace zc2 := lt_cell c2 (by simp)
    first | replace c3 := cell_kept hb1 (by first | omega | (simp; omega)) c3 | replace c3 := cell_kept hb1 (by first | omega | (simp; omega)) (cell_alloc c3 (by omega) _)
    replace zc3 := lt_cell c3 (by simp)
    first | replace c4 := cell_kept hb1 (by first | omega | (simp; omega)) c4 | replace c4 := cell_kept hb1 (by first | omega | (simp; omega)) (cell_alloc c4 (by omega) _)
    replace zc4 := lt_cell c4 (by simp)
    first | replace c5 := cell_kept hb1 (by first | omega | (simp; omega)) c5 | replace c5 := cell_kept hb1 (by first | omega | (simp; omega)) (cell_alloc c5 (by omega) _)
    replace zc5 := lt_cell c5 (by simp)
    first | replace c6 := cell_kept hb1 (by first | omega | (simp; omega)) c6 | replace c6 := cell_kept hb1 (by first | omega | (simp; omega)) (cell_alloc c6 (by omega) _)
    replace zc6 := lt_cell c6 (by simp)
    replace bb : Below v.heap.size v w17 := Below.trans (by (repeat (first | with_reducible exact Below.refl _ _ | with_reducible assumption | ((with_reducible refine Bw.set ?_ ?_); rotate_left; focus omega) | ((with_reducible refine Bw.al ?_ ?_); rotate_left; focus (first | omega | (simp; done) | (simp; omega))) | with_reducible refine Below.drew ?_ | with_reducible refine Bw.dr ?_ _))) (hb1.mono (by first | omega | (simp; omega)))
    have zb := bb.size
    clear hb1
    go_wp2_with fail
    (with_reducible refine (inside_t _ _ _ _ (by omega) (by omega)).mono ?_)
    rintro e w18 ⟨rfl, hb1⟩
    first | replace c1 := cell_kept hb1 (by first | omega | (simp; omega)) c1 | replace c1 := cell_kept hb1 (by first | omega | (simp; omega)) (cell_alloc c1 (by omega) _)
    replace zc1 := lt_cell c1 (by simp)
    first | replace c2 := cell_kept hb1 (by first | omega | (simp; omega)) c2 | replace c2 := cell_kept hb1 (by first | omega | (simp; omega)) (cell_alloc c2 (by omega) _)
    replace zc2 := lt_cell c2 (by simp)
    first | replace c3 := cell_kept hb1 (by first | omega | (simp; omega)) c3 | replace c3 := cell_kept hb1 (by first | omega | (simp; omega)) (cell_alloc c3 (by omega) _)
    replace zc3 := lt_cell c3 (by simp)
    first | replace c4 := cell_kept hb1 (by first | omega | (simp; omega)) c4 | replace c4 := cell_kept hb1 (by first | omega | (simp; omega)) (cell_alloc c4 (by omega) _)
    replace zc4 := lt_cell c4 (by simp)
    first | replace c5 := cell_kept hb1 (by first | omega | (simp; omega)) c5 | replace c5 := cell_kept hb1 (by first | omega | (simp; omega)) (cell_alloc c5 (by omega) _)
    replace zc5 := lt_cell c5 (by simp)
    first | replace c6 := cell_kept hb1 (by first | omega | (simp; omega)) c6 | replace c6 := cell_kept hb1 (by first | omega | (simp; omega)) (cell_alloc c6 (by omega) _)
    replace zc6 := lt_cell c6 (by simp)
    replace bb : Below v.heap.size v w18 := Below.trans (by (repeat (first | with_reducible exact Below.refl _ _ | with_reducible assumption | ((with_reducible refine Bw.set ?_ ?_); rotate_left; focus omega) | ((with_reducible refine Bw.al ?_ ?_); rotate_left; focus (first | omega | (simp; done) | (simp; omega))) | with_reducible refine Below.drew ?_ | with_reducible refine Bw.dr ?_ _))) (hb1.mono (by first | omega | (simp; omega)))
    have zb := bb.size
    clear hb1
    go_wp2_with fail
    (with_reducible refine (inside_t _ _ _ _ (by omega) (by omega)).mono ?_)
    rintro e w19 ⟨rfl, hb1⟩
    first | replace c1 := cell_kept hb1 (by first | omega | (simp; omega)) c1 | replace c1 := cell_kept hb1 (by first | omega | (simp; omega)) (cell_alloc c1 (by omega) _)
    replace zc1 := lt_cell c1 (by simp)
    first | replace c2 := cell_kept hb1 (by first | omega | (simp; omega)) c2 | replace c2 := cell_kept hb1 (by first | omega | (simp; omega)) (cell_alloc c2 (by omega) _)
    replace zc2 := lt_cell c2 (by simp)
    first | replace c3 := cell_kept hb1 (by first | omega | (simp; omega)) c3 | replace c3 := cell_kept hb1 (by first | omega | (simp; omega)) (cell_alloc c3 (by omega) _)
    replace zc3 := lt_cell c3 (by simp)
    first | replace c4 := cell_kept hb1 (by first | omega | (simp; omega)) c4 | replace c4 := cell_kept hb1 (by first | omega | (simp; omega)) (cell_alloc c4 (by omega) _)
    replace zc4 := lt_cell c4 (by simp)
    first | replace c5 := cell_kept hb1 (by first | omega | (simp; omega)) c5 | replace c5 := cell_kept hb1 (by first | omega | (simp; omega)) (cell_alloc c5 (by omega) _)
    replace zc5 := lt_cell c5 (by simp)
    first | replace c6 := cell_kept hb1 (by first | omega | (simp; omega)) c6 | replace c6 := cell_kept hb1 (by first | omega | (simp; omega)) (cell_alloc c6 (by omega) _)
    replace zc6 := lt_cell c6 (by simp)
    replace bb : Below v.heap.size v w19 := Below.trans (by (repeat (first | with_reducible exact Below.refl _ _ | with_reducible assumption | ((with_reducible refine Bw.set ?_ ?_); rotate_left; focus omega) | ((with_reducible refine Bw.al ?_ ?_); rotate_left; focus (first | omega | (simp; done) | (simp; omega))) | with_reducible refine Below.drew ?_ | with_reducible refine Bw.dr ?_ _))) (hb1.mono (by first | omega | (simp; omega)))
    have zb := bb.size
    clear hb1
    go_wp2_with fail
    (with_reducible refine (inside_t _ _ _ _ (by omega) (by omega)).mono ?_)
    rintro e w20 ⟨rfl, hb1⟩
    first | replace c1 := cell_kept hb1 (by first | omega | (simp; omega)) c1 | replace c1 := cell_kept hb1 (by first | omega | (simp; omega)) (cell_alloc c1 (by omega) _)
    replace zc1 := lt_cell c1 (by simp)
    first | replace c2 := cell_kept hb1 (by first | omega | (simp; omega)) c2 | replace c2 := cell_kept hb1 (by first | omega | (simp; omega)) (cell_alloc c2 (by omega) _)
    replace zc2 := lt_cell c2 (by simp)
    first | replace c3 := cell_kept hb1 (by first | omega | (simp; omega)) c3 | replace c3 := cell_kept hb1 (by first | omega | (simp; omega)) (cell_alloc c3 (by omega) _)
    replace zc3 := lt_cell c3 (by simp)
    first | replace c4 := cell_kept hb1 (by first | omega | (simp; omega)) c4 | replace c4 := cell_kept hb1 (by first | omega | (simp; omega)) (cell_alloc c4 (by omega) _)
    replace zc4 := lt_cell c4 (by simp)
    first | replace c5 := cell_kept hb1 (by first | omega | (simp; omega)) c5 | replace c5 := cell_kept hb1 (by first | omega | (simp; omega)) (cell_alloc c5 (by omega) _)
    replace zc5 := lt_cell c5 (by simp)
    first | replace c6 := cell_kept hb1 (by first | omega | (simp; omega)) c6 | replace c6 := cell_kept hb1 (by first | omega | (simp; omega)) (cell_alloc c6 (by omega) _)
    replace zc6 := lt_cell c6 (by simp)
    replace bb : Below v.heap.size v w20 := Below.trans (by (repeat (first | with_reducible exact Below.refl _ _ | with_reducible assumption | ((with_reducible refine Bw.set ?_ ?_); rotate_left; focus omega) | ((with_reducible refine Bw.al ?_ ?_); rotate_left; focus (first | omega | (simp; done) | (simp; omega))) | with_reducible refine Below.drew ?_ | with_reducible refine Bw.dr ?_ _))) (hb1.mono (by first | omega | (simp; omega)))
    have zb := bb.size
    clear hb1
    go_wp2_with fail
    (with_reducible refine (inside_t _ _ _ _ (by omega) (by omega)).mono ?_)
    rintro e w21 ⟨rfl, hb1⟩
    first | replace c1 := cell_kept hb1 (by first | omega | (simp; omega)) c1 | replace c1 := cell_kept hb1 (by first | omega | (simp; omega)) (cell_alloc c1 (by omega) _)
    replace zc1 := lt_cell c1 (by simp)
    first | replace c2 := cell_kept hb1 (by first | omega | (simp; omega)) c2 | replace c2 := cell_kept hb1 (by first | omega | (simp; omega)) (cell_alloc c2 (by omega) _)
    replace zc2 := lt_cell c2 (by simp)
    first | replace c3 := cell_kept hb1 (by first | omega | (simp; omega)) c3 | replace c3 := cell_kept hb1 (by first | omega | (simp; omega)) (cell_alloc c3 (by omega) _)
    replace zc3 := lt_cell c3 (by simp)
    first | replace c4 := cell_kept hb1 (by first | omega | (simp; omega)) c4 | replace c4 := cell_kept hb1 (by first | omega | (simp; omega)) (cell_alloc c4 (by omega) _)
    replace zc4 := lt_cell c4 (by simp)
    first | replace c5 := cell_kept hb1 (by first | omega | (simp; omega)) c5 | replace c5 := cell_kept hb1 (by first | omega | (simp; omega)) (cell_alloc c5 (by omega) _)
    replace zc5 := lt_cell c5 (by simp)
    first | replace c6 := cell_kept hb1 (by first | omega | (simp; omega)) c6 | replace c6 := cell_kept hb1 (by first | omega | (simp; omega)) (cell_alloc c6 (by omega) _)
    replace zc6 := lt_cell c6 (by simp)
    replace bb : Below v.heap.size v w21 := Below.trans (by (repeat (first | with_reducible exact Below.refl _ _ | with_reducible assumption | ((with_reducible refine Bw.set ?_ ?_); rotate_left; focus omega) | ((with_reducible refine Bw.al ?_ ?_); rotate_left; focus (first | omega | (simp; done) | (simp; omega))) | with_reducible refine Below.drew ?_ | with_reducible refine Bw.dr ?_ _))) (hb1.mono (by first | omega | (simp; omega)))
    have zb := bb.size
    clear hb1
    go_wp2_with fail
    go_ret
    exact ⟨rfl, bb⟩
  · simp only [e1, e2, e3, e4, e5, e6] at M1 M2 U1 U2 L1 L2 L3
    clear e1 e2 e3 e4 e5 e6
    replace M1 := Lib.hid M1
    replace M2 := Lib.hid M2
    replace U1 := Lib.hid U1
    replace U2 := Lib.hid U2
    replace L1 := Lib.hid L1
    replace L2 := Lib.hid L2
    replace L3 := Lib.hid L3
    rcases x with _ | _
    all_goals
      go_wp2_with fail
      (with_reducible refine (M1.out _).mono ?_)
      rintro e w3 ⟨rfl, hb1⟩
      first | replace c1 := cell_kept hb1 (by first | omega | (simp; omega)) c1 | replace c1 := cell_kept hb1 (by first | omega | (simp; omega)) (cell_alloc c1 (by omega) _)
      replace zc1 := lt_cell c1 (by simp)
      first | replace c2 := cell_kept hb1 (by first | omega | (simp; omega)) c2 | replace c2 := cell_kept hb1 (by first | omega | (simp; omega)) (cell_alloc c2 (by omega) _)
      replace zc2 := lt_cell c2 (by simp)
      replace bb : Below v.heap.size v w3 := Below.trans (by (repeat (first | with_reducible exact Below.refl _ _ | with_reducible assumption | ((with_reducible refine Bw.set ?_ ?_); rotate_left; focus omega) | ((with_reducible refine Bw.al ?_ ?_); rotate_left; focus (first | omega | (simp; done) | (simp; omega))) | with_reducible refine Below.drew ?_ | with_reducible refine Bw.dr ?_ _))) (hb1.mono (by first | omega | (simp; omega)))
      have zb := bb.size
      clear hb1
      go_upto_region 5 with fail
      replace c1 := cell_alloc c1 (by omega) (.cells #[Value.int .i64 0, Value.int .i64 0] 40)
      replace zc1 := lt_cell c1 (by simp)
      replace c2 := cell_alloc c2 (by omega) (.cells #[Value.int .i64 0, Value.int .i64 0] 40)
      replace zc2 := lt_cell c2 (by simp)
      have c3 := cell_new w3 #[Value.int .i64 0, Value.int .i64 0] 40
      replace bb : Below v.heap.size v (w3.alloc (.cells #[Value.int .i64 0, Value.int .i64 0] 40)) := bb.alloc (by omega) _
      have zc3 := lt_cell c3 (by simp)
      generalize w3.alloc (.cells #[Value.int .i64 0, Value.int .i64 0] 40) = w4 at *
      generalize w3.heap.size = b3 at *
      have zb := bb.size
      go_wp2_with fail
      (with_reducible refine (M2.out _).mono ?_)
      rintro e w5 ⟨rfl, hb1⟩
      first | replace c1 := cell_kept hb1 (by first | omega | (simp; omega)) c1 | replace c1 := cell_kept hb1 (by first | omega | (simp; omega)) (cell_alloc c1 (by omega) _)
      replace zc1 := lt_cell c1 (by simp)
      first | replace c2 := cell_kept hb1 (by first | omega | (simp; omega)) c2 | replace c2 := cell_kept hb1 (by first | omega | (simp; omega)) (cell_alloc c2 (by omega) _)
      replace zc2 := lt_cell c2 (by simp)
      first | replace c3 := cell_kept hb1 (by first | omega | (simp; omega)) c3 | replace c3 := cell_kept hb1 (by first | omega | (simp; omega)) (cell_alloc c3 (by omega) _)
      replace zc3 := lt_cell c3 (by simp)
      replace bb : Below v.heap.size v w5 := Below.trans (by (repeat (first | with_reducible exact Below.refl _ _ | with_reducible assumption | ((with_reducible refine Bw.set ?_ ?_); rotate_left; focus omega) | ((with_reducible refine Bw.al ?_ ?_); rotate_left; focus (first | omega | (simp; done) | (simp; omega))) | with_reducible refine Below.drew ?_ | with_reducible refine Bw.dr ?_ _))) (hb1.mono (by first | omega | (simp; omega)))
      have zb := bb.size
      clear hb1
      go_upto_region 6 with fail
      replace c1 := cell_alloc c1 (by omega) (.cells #[Value.int .i64 0, Value.int .i64 0] 40)
      replace zc1 := lt_cell c1 (by simp)
      replace c2 := cell_alloc c2 (by omega) (.cells #[Value.int .i64 0, Value.int .i64 0] 40)
      replace zc2 := lt_cell c2 (by simp)
      replace c3 := cell_alloc c3 (by omega) (.cells #[Value.int .i64 0, Value.int .i64 0] 40)
      replace zc3 := lt_cell c3 (by simp)
      have c4 := cell_new w5 #[Value.int .i64 0, Value.int .i64 0] 40
      replace bb : Below v.heap.size v (w5.alloc (.cells #[Value.int .i64 0, Value.int .i64 0] 40)) := bb.alloc (by omega) _
      have zc4 := lt_cell c4 (by simp)
      generalize w5.alloc (.cells #[Value.int .i64 0, Value.int .i64 0] 40) = w6 at *
      generalize w5.heap.size = b4 at *
      have zb := bb.size
      go_wp2_with fail
      (with_reducible refine (U1.out _).mono ?_)
      rintro e w7 ⟨rfl, hb1⟩
      first | replace c1 := cell_kept hb1 (by first | omega | (simp; omega)) c1 | replace c1 := cell_kept hb1 (by first | omega | (simp; omega)) (cell_alloc c1 (by omega) _)
      replace zc1 := lt_cell c1 (by simp)
      first | replace c2 := cell_kept hb1 (by first | omega | (simp; omega)) c2 | replace c2 := cell_kept hb1 (by first | omega | (simp; omega)) (cell_alloc c2 (by omega) _)
      replace zc2 := lt_cell c2 (by simp)
      first | replace c3 := cell_kept hb1 (by first | omega | (simp; omega)) c3 | replace c3 := cell_kept hb1 (by first | omega | (simp; omega)) (cell_alloc c3 (by omega) _)
      replace zc3 := lt_cell c3 (by simp)
      first | replace c4 := cell_kept hb1 (by first | omega | (simp; omega)) c4 | replace c4 := cell_kept hb1 (by first | omega | (simp; omega)) (cell_alloc c4 (by omega) _)
      replace zc4 := lt_cell c4 (by simp)
      replace bb : Below v.heap.size v w7 := Below.trans (by (repeat (first | with_reducible exact Below.refl _ _ | with_reducible assumption | ((with_reducible refine Bw.set ?_ ?_); rotate_left; focus omega) | ((with_reducible refine Bw.al ?_ ?_); rotate_left; focus (first | omega | (simp; done) | (simp; omega))) | with_reducible refine Below.drew ?_ | with_reducible refine Bw.dr ?_ _))) (hb1.mono (by first | omega | (simp; omega)))
      have zb := bb.size
      clear hb1
      go_upto_region 7 with fail
      replace c1 := cell_alloc c1 (by omega) (.cells #[Value.int .i64 h1, Value.int .i64 h2] 40)
      replace zc1 := lt_cell c1 (by simp)
      replace c2 := cell_alloc c2 (by omega) (.cells #[Value.int .i64 h1, Value.int .i64 h2] 40)
      replace zc2 := lt_cell c2 (by simp)
      replace c3 := cell_alloc c3 (by omega) (.cells #[Value.int .i64 h1, Value.int .i64 h2] 40)
      replace zc3 := lt_cell c3 (by simp)
      replace c4 := cell_alloc c4 (by omega) (.cells #[Value.int .i64 h1, Value.int .i64 h2] 40)
      replace zc4 := lt_cell c4 (by simp)
      have c5 := cell_new w7 #[Value.int .i64 h1, Value.int .i64 h2] 40
      replace bb : Below v.heap.size v (w7.alloc (.cells #[Value.int .i64 h1, Value.int .i64 h2] 40)) := bb.alloc (by omega) _
      have zc5 := lt_cell c5 (by simp)
      generalize w7.alloc (.cells #[Value.int .i64 h1, Value.int .i64 h2] 40) = w8 at *
      generalize w7.heap.size = b5 at *
      have zb := bb.size
      go_wp2_with fail
      (with_reducible refine (U2.out _).mono ?_)
      rintro e w9 ⟨rfl, hb1⟩
      first | replace c1 := cell_kept hb1 (by first | omega | (simp; omega)) c1 | replace c1 := cell_kept hb1 (by first | omega | (simp; omega)) (cell_alloc c1 (by omega) _)
      replace zc1 := lt_cell c1 (by simp)
      first | replace c2 := cell_kept hb1 (by first | omega | (simp; omega)) c2 | replace c2 := cell_kept hb1 (by first | omega | (simp; omega)) (cell_alloc c2 (by omega) _)
      replace zc2 := lt_cell c2 (by simp)
      first | replace c3 := cell_kept hb1 (by first | omega | (simp; omega)) c3 | replace c3 := cell_kept hb1 (by first | omega | (simp; omega)) (cell_alloc c3 (by omega) _)
      replace zc3 := lt_cell c3 (by simp)
      first | replace c4 := cell_kept hb1 (by first | omega | (simp; omega)) c4 | replace c4 := cell_kept hb1 (by first | omega | (simp; omega)) (cell_alloc c4 (by omega) _)
      replace zc4 := lt_cell c4 (by simp)
      first | replace c5 := cell_kept hb1 (by first | omega | (simp; omega)) c5 | replace c5 := cell_kept hb1 (by first | omega | (simp; omega)) (cell_alloc c5 (by omega) _)
      replace zc5 := lt_cell c5 (by simp)
      replace bb : Below v.heap.size v w9 := Below.trans (by (repeat (first | with_reducible exact Below.refl _ _ | with_reducible assumption | ((with_reducible refine Bw.set ?_ ?_); rotate_left; focus omega) | ((with_reducible refine Bw.al ?_ ?_); rotate_left; focus (first | omega | (simp; done) | (simp; omega))) | with_reducible refine Below.drew ?_ | with_reducible refine Bw.dr ?_ _))) (hb1.mono (by first | omega | (simp; omega)))
      have zb := bb.size
      clear hb1
      go_upto_region 8 with fail
      replace c1 := cell_alloc c1 (by omega) (.cells #[Value.int .i64 h1, Value.int .i64 h2] 40)
      replace zc1 := lt_cell c1 (by simp)
      replace c2 := cell_alloc c2 (by omega) (.cells #[Value.int .i64 h1, Value.int .i64 h2] 40)
      replace zc2 := lt_cell c2 (by simp)
      replace c3 := cell_alloc c3 (by omega) (.cells #[Value.int .i64 h1, Value.int .i64 h2] 40)
      replace zc3 := lt_cell c3 (by simp)
      replace c4 := cell_alloc c4 (by omega) (.cells #[Value.int .i64 h1, Value.int .i64 h2] 40)
      replace zc4 := lt_cell c4 (by simp)
      replace c5 := cell_alloc c5 (by omega) (.cells #[Value.int .i64 h1, Value.int .i64 h2] 40)
      replace zc5 := lt_cell c5 (by simp)
      have c6 := cell_new w9 #[Value.int .i64 h1, Value.int .i64 h2] 40
      replace bb : Below v.heap.size v (w9.alloc (.cells #[Value.int .i64 h1, Value.int .i64 h2] 40)) := bb.alloc (by omega) _
      have zc6 := lt_cell c6 (by simp)
      generalize w9.alloc (.cells #[Value.int .i64 h1, Value.int .i64 h2] 40) = w10 at *
      generalize w9.heap.size = b6 at *
      have zb := bb.size
      go_wp2_with fail
      (with_reducible refine (L1.out _).mono ?_)
      rintro e w11 ⟨rfl, hb1⟩
      first | replace c1 := cell_kept hb1 (by first | omega | (simp; omega)) c1 | replace c1 := cell_kept hb1 (by first | omega | (simp; omega)) (cell_alloc c1 (by omega) _)
      replace zc1 := lt_cell c1 (by simp)
      first | replace c2 := cell_kept hb1 (by first | omega | (simp; omega)) c2 | replace c2 := cell_kept hb1 (by first | omega | (simp; omega)) (cell_alloc c2 (by omega) _)
      replace zc2 := lt_cell c2 (by simp)
      first | replace c3 := cell_kept hb1 (by first | omega | (simp; omega)) c3 | replace c3 := cell_kept hb1 (by first | omega | (simp; omega)) (cell_alloc c3 (by omega) _)
      replace zc3 := lt_cell c3 (by simp)
      first | replace c4 := cell_kept hb1 (by first | omega | (simp; omega)) c4 | replace c4 := cell_kept hb1 (by first | omega | (simp; omega)) (cell_alloc c4 (by omega) _)
      replace zc4 := lt_cell c4 (by simp)
      first | replace c5 := cell_kept hb1 (by first | omega | (simp; omega)) c5 | replace c5 := cell_kept hb1 (by first | omega | (simp; omega)) (cell_alloc c5 (by omega) _)
      replace zc5 := lt_cell c5 (by simp)
      first | replace c6 := cell_kept hb1 (by first | omega | (simp; omega)) c6 | replace c6 := cell_kept hb1 (by first | omega | (simp; omega)) (cell_alloc c6 (by omega) _)
      replace zc6 := lt_cell c6 (by simp)
      replace bb : Below v.heap.size v w11 := Below.trans (by (repeat (first | with_reducible exact Below.refl _ _ | with_reducible assumption | ((with_reducible refine Bw.set ?_ ?_); rotate_left; focus omega) | ((with_reducible refine Bw.al ?_ ?_); rotate_left; focus (first | omega | (simp; done) | (simp; omega))) | with_reducible refine Below.drew ?_ | with_reducible refine Bw.dr ?_ _))) (hb1.mono (by first | omega | (simp; omega)))
      have zb := bb.size
      clear hb1
      go_wp2_with fail
      (with_reducible refine (L2.out _).mono ?_)
      rintro e w12 ⟨rfl, hb1⟩
      first | replace c1 := cell_kept hb1 (by first | omega | (simp; omega)) c1 | replace c1 := cell_kept hb1 (by first | omega | (simp; omega)) (cell_alloc c1 (by omega) _)
      replace zc1 := lt_cell c1 (by simp)
      first | replace c2 := cell_kept hb1 (by first | omega | (simp; omega)) c2 | replace c2 := cell_kept hb1 (by first | omega | (simp; omega)) (cell_alloc c2 (by omega) _)
      replace zc2 := lt_cell c2 (by simp)
      first | replace c3 := cell_kept hb1 (by first | omega | (simp; omega)) c3 | replace c3 := cell_kept hb1 (by first | omega | (simp; omega)) (cell_alloc c3 (by omega) _)
      replace zc3 := lt_cell c3 (by simp)
      first | replace c4 := cell_kept hb1 (by first | omega | (simp; omega)) c4 | replace c4 := cell_kept hb1 (by first | omega | (simp; omega)) (cell_alloc c4 (by omega) _)
      replace zc4 := lt_cell c4 (by simp)
      first | replace c5 := cell_kept hb1 (by first | omega | (simp; omega)) c5 | replace c5 := cell_kept hb1 (by first | omega | (simp; omega)) (cell_alloc c5 (by omega) _)
      replace zc5 := lt_cell c5 (by simp)
      first | replace c6 := cell_kept hb1 (by first | omega | (simp; omega)) c6 | replace c6 := cell_kept hb1 (by first | omega | (simp; omega)) (cell_alloc c6 (by omega) _)
      replace zc6 := lt_cell c6 (by simp)
      replace bb : Below v.heap.size v w12 := Below.trans (by (repeat (first | with_reducible exact Below.refl _ _ | with_reducible assumption | ((with_reducible refine Bw.set ?_ ?_); rotate_left; focus omega) | ((with_reducible refine Bw.al ?_ ?_); rotate_left; focus (first | omega | (simp; done) | (simp; omega))) | with_reducible refine Below.drew ?_ | with_reducible refine Bw.dr ?_ _))) (hb1.mono (by first | omega | (simp; omega)))
      have zb := bb.size
      clear hb1
      go_wp2_with fail
      (with_reducible refine (L3.out _).mono ?_)
      rintro e w13 ⟨rfl, hb1⟩
      first | replace c1 := cell_kept hb1 (by first | omega | (simp; omega)) c1 | replace c1 := cell_kept hb1 (by first | omega | (simp; omega)) (cell_alloc c1 (by omega) _)
      replace zc1 := lt_cell c1 (by simp)
      first | replace c2 := cell_kept hb1 (by first | omega | (simp; omega)) c2 | replace c2 := cell_kept hb1 (by first | omega | (simp; omega)) (cell_alloc c2 (by omega) _)
      replace zc2 := lt_cell c2 (by simp)
      first | replace c3 := cell_kept hb1 (by first | omega | (simp; omega)) c3 | replace c3 := cell_kept hb1 (by first | omega | (simp; omega)) (cell_alloc c3 (by omega) _)
      replace zc3 := lt_cell c3 (by simp)
      first | replace c4 := cell_kept hb1 (by first | omega | (simp; omega)) c4 | replace c4 := cell_kept hb1 (by first | omega | (simp; omega)) (cell_alloc c4 (by omega) _)
      replace zc4 := lt_cell c4 (by simp)
      first | replace c5 := cell_kept hb1 (by first | omega | (simp; omega)) c5 | replace c5 := cell_kept hb1 (by first | omega | (simp; omega)) (cell_alloc c5 (by omega) _)
      replace zc5 := lt_cell c5 (by simp)
      first | replace c6 := cell_kept hb1 (by first | omega | (simp; omega)) c6 | replace c6 := cell_kept hb1 (by first | omega | (simp; omega)) (cell_alloc c6 (by omega) _)
      replace zc6 := lt_cell c6 (by simp)
      replace bb : Below v.heap.size v w13 := Below.trans (by (repeat (first | with_reducible exact Below.refl _ _ | with_reducible assumption | ((with_reducible refine Bw.set ?_ ?_); rotate_left; focus omega) | ((with_reducible refine Bw.al ?_ ?_); rotate_left; focus (first | omega | (simp; done) | (simp; omega))) | with_reducible refine Below.drew ?_ | with_reducible refine Bw.dr ?_ _))) (hb1.mono (by first | omega | (simp; omega)))
      have zb := bb.size
      clear hb1
      go_wp2_with fail
      (with_reducible refine (inside_t _ _ _ _ (by omega) (by omega)).mono ?_)
      rintro e w14 ⟨rfl, hb1⟩
      first | replace c1 := cell_kept hb1 (by first | omega | (simp; omega)) c1 | replace c1 := cell_kept hb1 (by first | omega | (simp; omega)) (cell_alloc c1 (by omega) _)
      replace zc1 := lt_cell c1 (by simp)
      first | replace c2 := cell_kept hb1 (by first | omega | (simp; omega)) c2 | replace c2 := cell_kept hb1 (by first | omega | (simp; omega)) (cell_alloc c2 (by omega) _)
      replace zc2 := lt_cell c2 (by simp)
      first | replace c3 := cell_kept hb1 (by first | omega | (simp; omega)) c3 | replace c3 := cell_kept hb1 (by first | omega | (simp; omega)) (cell_alloc c3 (by omega) _)
      replace zc3 := lt_cell c3 (by simp)
      first | replace c4 := cell_kept hb1 (by first | omega | (simp; omega)) c4 | replace c4 := cell_kept hb1 (by first | omega | (simp; omega)) (cell_alloc c4 (by omega) _)
      replace zc4 := lt_cell c4 (by simp)
      first | replace c5 := cell_kept hb1 (by first | omega | (simp; omega)) c5 | replace c5 := cell_kept hb1 (by first | omega | (simp; omega)) (cell_alloc c5 (by omega) _)
      replace zc5 := lt_cell c5 (by simp)
      first | replace c6 := cell_kept hb1 (by first | omega | (simp; omega)) c6 | replace c6 := cell_kept hb1 (by first | omega | (simp; omega)) (cell_alloc c6 (by omega) _)
      replace zc6 := lt_cell c6 (by simp)
      replace bb : Below v.heap.size v w14 := Below.trans (by (repeat (first | with_reducible exact Below.refl _ _ | with_reducible assumption | ((with_reducible refine Bw.set ?_ ?_); rotate_left; focus omega) | ((with_reducible refine Bw.al ?_ ?_); rotate_left; focus (first | omega | (simp; done) | (simp; omega))) | with_reducible refine Below.drew ?_ | with_reducible refine Bw.dr ?_ _))) (hb1.mono (by first | omega | (simp; omega)))
      have zb := bb.size
      clear hb1
      go_wp2_with fail
      (with_reducible refine (inside_t _ _ _ _ (by omega) (by omega)).mono ?_)
      rintro e w15 ⟨rfl, hb1⟩
      first | replace c1 := cell_kept hb1 (by first | omega | (simp; omega)) c1 | replace c1 := cell_kept hb1 (by first | omega | (simp; omega)) (cell_alloc c1 (by omega) _)
      replace zc1 := lt_cell c1 (by simp)
      first | replace c2 := cell_kept hb1 (by first | omega | (simp; omega)) c2 | replace c2 := cell_kept hb1 (by first | omega | (simp; omega)) (cell_alloc c2 (by omega) _)
      replace zc2 := lt_cell c2 (by simp)
      first | replace c3 := cell_kept hb1 (by first | omega | (simp; omega)) c3 | replace c3 := cell_kept hb1 (by first | omega | (simp; omega)) (cell_alloc c3 (by omega) _)
      replace zc3 := lt_cell c3 (by simp)
      first | replace c4 := cell_kept hb1 (by first | omega | (simp; omega)) c4 | replace c4 := cell_kept hb1 (by first | omega | (simp; omega)) (cell_alloc c4 (by omega) _)
      replace zc4 := lt_cell c4 (by simp)
      first | replace c5 := cell_kept hb1 (by first | omega | (simp; omega)) c5 | replace c5 := cell_kept hb1 (by first | omega | (simp; omega)) (cell_alloc c5 (by omega) _)
      replace zc5 := lt_cell c5 (by simp)
      first | replace c6 := cell_kept hb1 (by first | omega | (simp; omega)) c6 | replace c6 := cell_kept hb1 (by first | omega | (simp; omega)) (cell_alloc c6 (by omega) _)
      replace zc6 := lt_cell c6 (by simp)
      replace bb : Below v.heap.size v w15 := Below.trans (by (repeat (first | with_reducible exact Below.refl _ _ | with_reducible assumption | ((with_reducible refine Bw.set ?_ ?_); rotate_left; focus omega) | ((with_reducible refine Bw.al ?_ ?_); rotate_left; focus (first | omega | (simp; done) | (simp; omega))) | with_reducible refine Below.drew ?_ | with_reducible refine Bw.dr ?_ _))) (hb1.mono (by first | omega | (simp; omega)))
      have zb := bb.size
      clear hb1
      go_wp2_with fail
      (with_reducible refine (inside_t _ _ _ _ (by omega) (by omega)).mono ?_)
      rintro e w16 ⟨rfl, hb1⟩
      first | replace c1 := cell_kept hb1 (by first | omega | (simp; omega)) c1 | replace c1 := cell_kept hb1 (by first | omega | (simp; omega)) (cell_alloc c1 (by omega) _)
      replace zc1 := lt_cell c1 (by simp)
      first | replace c2 := cell_kept hb1 (by first | omega | (simp; omega)) c2 | replace c2 := cell_kept hb1 (by first | omega | (simp; omega)) (cell_alloc c2 (by omega) _)
      replace zc2 := lt_cell c2 (by simp)
      first | replace c3 := cell_kept hb1 (by first | omega | (simp; omega)) c3 | replace c3 := cell_kept hb1 (by first | omega | (simp; omega)) (cell_alloc c3 (by omega) _)
      replace zc3 := lt_cell c3 (by simp)
      first | replace c4 := cell_kept hb1 (by first | omega | (simp; omega)) c4 | replace c4 := cell_kept hb1 (by first | omega | (simp; omega)) (cell_alloc c4 (by omega) _)
      replace zc4 := lt_cell c4 (by simp)
      first | replace c5 := cell_kept hb1 (by first | omega | (simp; omega)) c5 | replace c5 := cell_kept hb1 (by first | omega | (simp; omega)) (cell_alloc c5 (by omega) _)
      replace zc5 := lt_cell c5 (by simp)
      first | replace c6 := cell_kept hb1 (by first | omega | (simp; omega)) c6 | replace c6 := cell_kept hb1 (by first | omega | (simp; omega)) (cell_alloc c6 (by omega) _)
      replace zc6 := lt_cell c6 (by simp)
      replace bb : Below v.heap.size v w16 := Below.trans (by (repeat (first | with_reducible exact Below.refl _ _ | with_reducible assumption | ((with_reducible refine Bw.set ?_ ?_); rotate_left; focus omega) | ((with_reducible refine Bw.al ?_ ?_); rotate_left; focus (first | omega | (simp; done) | (simp; omega))) | with_reducible refine Below.drew ?_ | with_reducible refine Bw.dr ?_ _))) (hb1.mono (by first | omega | (simp; omega)))
      have zb := bb.size
      clear hb1
      go_wp2_with fail
      (with_reducible refine (inside_t _ _ _ _ (by omega) (by omega)).mono ?_)
      rintro e w17 ⟨rfl, hb1⟩
      first | replace c1 := cell_kept hb1 (by first | omega | (simp; omega)) c1 | replace c1 := cell_kept hb1 (by first | omega | (simp; omega)) (cell_alloc c1 (by omega) _)
      replace zc1 := lt_cell c1 (by simp)
      first | replace c2 := cell_kept hb1 (by first | omega | (simp; omega)) c2 | replace c2 := cell_kept hb1 (by first | omega | (simp; omega)) (cell_alloc c2 (by omega) _)
      replace zc2 := lt_cell c2 (by simp)
      first | replace c3 := cell_kept hb1 (by first | omega | (simp; omega)) c3 | replace c3 := cell_kept hb1 (by first | omega | (simp; omega)) (cell_alloc c3 (by omega) _)
      replace zc3 := lt_cell c3 (by simp)
      first | replace c4 := cell_kept hb1 (by first | omega | (simp; omega)) c4 | replace c4 := cell_kept hb1 (by first | omega | (simp; omega)) (cell_alloc c4 (by omega) _)
      replace zc4 := lt_cell c4 (by simp)
      first | replace c5 := cell_kept hb1 (by first | omega | (simp; omega)) c5 | replace c5 := cell_kept hb1 (by first | omega | (simp; omega)) (cell_alloc c5 (by omega) _)
      replace zc5 := lt_cell c5 (by simp)
      first | replace c6 := cell_kept hb1 (by first | omega | (simp; omega)) c6 | replace c6 := cell_kept hb1 (by first | omega | (simp; omega)) (cell_alloc c6 (by omega) _)
      replace zc6 := lt_cell c6 (by simp)
      replace bb : Below v.heap.size v w17 := Below.trans (by (repeat (first | with_reducible exact Below.refl _ _ | with_reducible assumption | ((with_reducible refine Bw.set ?_ ?_); rotate_left; focus omega) | ((with_reducible refine Bw.al ?_ ?_); rotate_left; focus (first | omega | (simp; done) | (simp; omega))) | with_reducible refine Below.drew ?_ | with_reducible refine Bw.dr ?_ _))) (hb1.mono (by first | omega | (simp; omega)))
      have zb := bb.size
      clear hb1
      go_wp2_with fail
      go_ret
      exact ⟨rfl, bb⟩

end Go.Proofs.Ytpejbmfapdocaaa
