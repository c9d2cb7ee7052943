/- The law FnSums, walked: it returns true and leaves old memory alone. Condition: the code reads as bytes. -/
import Derived.Test.YtpejbmfapdocaaaDrJ
import Derived.Test.YtpejbmfapdocaaaDrL
import Derived.Test.YtpejbmfapdocaaaIvAdd
import Derived.Test.YtpejbmfapdocaaaIvTimes
namespace Go.Proofs.Ytpejbmfapdocaaa
open Go.RowKit

/-- The ways of a sum. -/
theorem add_ways (a b c d : Int) : (∃ s1 s2, addIv a b c d = (s1, s2, 0) ∧ addIv c d a b = (s1, s2, 0) ∧ -1000000000 ≤ a ∧ a ≤ b ∧ b ≤ 1000000000 ∧ -1000000000 ≤ c ∧ c ≤ d ∧ d ≤ 1000000000 ∧ s1 = a + c ∧ s2 = b + d) ∨ (∃ k, addIv a b c d = (0, 0, k) ∧ k ≠ 0) := by
  rcases k1 : isIv a b with _ | _
  · exact .inr ⟨1, by rw [addIv, k1]; rfl, by omega⟩
  rcases k2 : isIv c d with _ | _
  · exact .inr ⟨1, by rw [addIv, k1, k2]; rfl, by omega⟩
  obtain ⟨p1, p2, p3⟩ := isIv_t k1
  obtain ⟨q1, q2, q3⟩ := isIv_t k2
  rcases k3 : isIv (a + c) (b + d) with _ | _
  · exact .inr ⟨3, by rw [addIv, k1, k2]; simp only [Bool.and_self, if_true]; rw [asIv, k3]; rfl, by omega⟩
  · refine .inl ⟨_, _, by rw [addIv, k1, k2]; simp only [Bool.and_self, if_true]; rw [asIv, k3]; rfl, ?_, p1, p2, p3, q1, q2, q3, rfl, rfl⟩
    rw [addIv, k1, k2]
    simp only [Bool.and_self, if_true]
    rw [asIv, Int.add_comm c a, Int.add_comm d b, k3]
    rfl
/-- The ways of a product. -/
theorem times_ways (a b n : Int) : (∃ t1 t2, timesIv a b n = (t1, t2, 0) ∧ -1000000000 ≤ a ∧ a ≤ b ∧ b ≤ 1000000000 ∧ -1000000 ≤ n ∧ n ≤ 1000000 ∧ ∀ k, a ≤ k → k ≤ b → t1 ≤ k * n ∧ k * n ≤ t2) ∨ (∃ k, timesIv a b n = (0, 0, k) ∧ k ≠ 0) := by
  rcases k1 : isIv a b with _ | _
  · exact .inr ⟨1, by rw [timesIv, k1]; rfl, by omega⟩
  rcases k2 : inB n (-1000000) 1000000 with _ | _
  · exact .inr ⟨2, by rw [timesIv, k1, if_pos rfl, k2]; rfl, by omega⟩
  obtain ⟨p1, p2, p3⟩ := isIv_t k1
  obtain ⟨q1, q2⟩ := inB_t k2
  have e : timesIv a b n = asIv (min (n * a) (n * b)) (max (n * a) (n * b)) := by rw [timesIv, k1, if_pos rfl, k2, if_pos rfl]
  rcases k3 : isIv (min (n * a) (n * b)) (max (n * a) (n * b)) with _ | _
  · exact .inr ⟨3, by rw [e, asIv, k3]; rfl, by omega⟩
  · refine .inl ⟨_, _, by rw [e, asIv, k3]; rfl, p1, p2, p3, q1, q2, fun k h1 h2 => ?_⟩
    rw [Int.mul_comm k n]
    rcases Int.le_total 0 n with h | h
    · have a1 := Int.mul_le_mul_of_nonneg_left h1 h
      have a2 := Int.mul_le_mul_of_nonneg_left h2 h
      omega
    · have a1 := Int.mul_le_mul_of_nonpos_left h h1
      have a2 := Int.mul_le_mul_of_nonpos_left h h2
      omega
set_option maxRecDepth 100000 in
set_option maxHeartbeats 8000000 in
theorem law_FnSums (A : Option Addr) (cap : Nat) (us : List Int) (v : World) (hr : Rd v v.heap.size A (bv us)) (hm : us.length ≤ maxLen) (hby : ∀ k, 0 ≤ us.getD k 0 ∧ us.getD k 0 ≤ 255) :
    Calls Try.prog 6 #[.slice A us.length cap] v fun e w' => e = .returned (.bool true) ∧ Below v.heap.size v w' := by
  unfold maxLen at hm
  by_cases hl : 4096 < us.length
  · have hl2 := Lib.hid (show decide (4096 < (us.length : Int)) = true from decide_eq_true (by omega))
    go_enter Try.func6, Try.ntmps6
    go_wp2_with fail
    (with_reducible refine (big_any A us.length cap true _ hl2.out (by unfold maxLen; omega)).mono ?_)
    rintro e w ⟨rfl, rfl⟩
    go_wp2_with fail
    go_ret
    exact ⟨rfl, Below.refl _ _⟩
  have hl2 := Lib.hid (show decide (4096 < (us.length : Int)) = false from decide_eq_false (by omega))
  have HU := Lib.hid (show Code us from ⟨by omega, hby⟩)
  have HR := Lib.hid hr
  have HL := Lib.hid (show us.length ≤ maxLen by unfold maxLen; omega)
  clear hr hm hby hl
  have bb := Below.refl v.heap.size v
  have zb := bb.size
  go_enter Try.func6, Try.ntmps6
  go_wp2_with fail
  (with_reducible refine (big_any A us.length cap false _ hl2.out HL.out).mono ?_)
  rintro e w ⟨rfl, rfl⟩
  go_wp2_with fail
  (with_reducible refine (spec_DrawAddIntervals _ _ us _ HU.out HR.out).mono ?_)
  rintro e w1 ⟨a, b, c, d, rfl, hb1⟩
  replace bb := hb1
  replace zb := hb1.size
  clear hb1
  have M1 := fun w => impl_AddIntervals a b c d w
  have M2 := fun w => spec_AddIntervals a b c d w
  obtain ⟨s1, s2, sc, es⟩ : ∃ s1 s2 sc, addIv a b c d = (s1, s2, sc) := ⟨_, _, _, rfl⟩
  simp only [es] at M1 M2
  replace M1 := Lib.hid M1
  replace M2 := Lib.hid M2
  replace es := Lib.hid es
  go_upto_region 4 with fail
  obtain ⟨c1, _, c2, _, _, _⟩ := kept2 (w := w1) (A := #[Value.int .i64 a, Value.int .i64 b]) (C := #[Value.int .i64 c, Value.int .i64 d]) (ta := 40) (tc := 40) (Below.refl _ _)
  replace bb : Below v.heap.size v ((w1.alloc (.cells #[Value.int .i64 a, Value.int .i64 b] 40)).alloc (.cells #[Value.int .i64 c, Value.int .i64 d] 40)) := by (repeat (first | with_reducible exact Below.refl _ _ | with_reducible assumption | ((with_reducible refine Bw.set ?_ ?_); rotate_left; focus omega) | ((with_reducible refine Bw.al ?_ ?_); rotate_left; focus (first | omega | (simp; done) | (simp; omega))) | with_reducible refine Below.drew ?_ | with_reducible refine Bw.dr ?_ _))
  have zc1 := lt_cell c1 (by simp)
  have zc2 := lt_cell c2 (by simp)
  generalize (w1.alloc (.cells #[Value.int .i64 a, Value.int .i64 b] 40)).alloc (.cells #[Value.int .i64 c, Value.int .i64 d] 40) = w2 at *
  replace zb := bb.size
  generalize w1.heap.size = b1 at *
  obtain ⟨b2, eb2⟩ : ∃ b2, b1 + 1 = b2 := ⟨_, rfl⟩
  rw [eb2] at c2 zc2 ⊢
  clear eb2
  go_wp2_with fail
  (with_reducible refine (M1.out _).mono ?_)
  rintro e w3 ⟨rfl, hb1⟩
  first | replace c1 := cell_kept hb1 (by first | omega | (simp; omega)) c1 | replace c1 := cell_kept hb1 (by first | omega | (simp; omega)) (cell_alloc c1 (by omega) _)
  replace zc1 := lt_cell c1 (by simp)
  first | replace c2 := cell_kept hb1 (by first | omega | (simp; omega)) c2 | replace c2 := cell_kept hb1 (by first | omega | (simp; omega)) (cell_alloc c2 (by omega) _)
  replace zc2 := lt_cell c2 (by simp)
  replace bb : Below v.heap.size v w3 := Below.trans (by (repeat (first | with_reducible exact Below.refl _ _ | with_reducible assumption | ((with_reducible refine Bw.set ?_ ?_); rotate_left; focus omega) | ((with_reducible refine Bw.al ?_ ?_); rotate_left; focus (first | omega | (simp; done) | (simp; omega))) | with_reducible refine Below.drew ?_ | with_reducible refine Bw.dr ?_ _))) (hb1.mono (by first | omega | (simp; omega)))
  have zb := bb.size
  clear hb1
  go_upto_region 5 with fail
  replace c1 := cell_alloc c1 (by omega) (.cells #[Value.int .i64 s1, Value.int .i64 s2] 40)
  replace zc1 := lt_cell c1 (by simp)
  replace c2 := cell_alloc c2 (by omega) (.cells #[Value.int .i64 s1, Value.int .i64 s2] 40)
  replace zc2 := lt_cell c2 (by simp)
  have c3 := cell_new w3 #[Value.int .i64 s1, Value.int .i64 s2] 40
  replace bb : Below v.heap.size v (w3.alloc (.cells #[Value.int .i64 s1, Value.int .i64 s2] 40)) := bb.alloc (by omega) _
  have zc3 := lt_cell c3 (by simp)
  generalize w3.alloc (.cells #[Value.int .i64 s1, Value.int .i64 s2] 40) = w4 at *
  generalize w3.heap.size = b3 at *
  have zb := bb.size
  go_wp2_with fail
  (with_reducible refine (M2.out _).mono ?_)
  rintro e w5 ⟨rfl, hb1⟩
  first | replace c1 := cell_kept hb1 (by first | omega | (simp; omega)) c1 | replace c1 := cell_kept hb1 (by first | omega | (simp; omega)) (cell_alloc c1 (by omega) _)
  replace zc1 := lt_cell c1 (by simp)
  first | replace c2 := cell_kept hb1 (by first | omega | (simp; omega)) c2 | replace c2 := cell_kept hb1 (by first | omega | (simp; omega)) (cell_alloc c2 (by omega) _)
  replace zc2 := lt_cell c2 (by simp)
  first | replace c3 := cell_kept hb1 (by first | omega | (simp; omega)) c3 | replace c3 := cell_kept hb1 (by first | omega | (simp; omega)) (cell_alloc c3 (by omega) _)
  replace zc3 := lt_cell c3 (by simp)
  replace bb : Below v.heap.size v w5 := Below.trans (by (repeat (first | with_reducible exact Below.refl _ _ | with_reducible assumption | ((with_reducible refine Bw.set ?_ ?_); rotate_left; focus omega) | ((with_reducible refine Bw.al ?_ ?_); rotate_left; focus (first | omega | (simp; done) | (simp; omega))) | with_reducible refine Below.drew ?_ | with_reducible refine Bw.dr ?_ _))) (hb1.mono (by first | omega | (simp; omega)))
  have zb := bb.size
  clear hb1
  go_upto_region 6 with fail
  replace c1 := cell_alloc c1 (by omega) (.cells #[Value.int .i64 s1, Value.int .i64 s2] 40)
  replace zc1 := lt_cell c1 (by simp)
  replace c2 := cell_alloc c2 (by omega) (.cells #[Value.int .i64 s1, Value.int .i64 s2] 40)
  replace zc2 := lt_cell c2 (by simp)
  replace c3 := cell_alloc c3 (by omega) (.cells #[Value.int .i64 s1, Value.int .i64 s2] 40)
  replace zc3 := lt_cell c3 (by simp)
  have c4 := cell_new w5 #[Value.int .i64 s1, Value.int .i64 s2] 40
  replace bb : Below v.heap.size v (w5.alloc (.cells #[Value.int .i64 s1, Value.int .i64 s2] 40)) := bb.alloc (by omega) _
  have zc4 := lt_cell c4 (by simp)
  generalize w5.alloc (.cells #[Value.int .i64 s1, Value.int .i64 s2] 40) = w6 at *
  generalize w5.heap.size = b4 at *
  have zb := bb.size
  go_wp2_with fail
  (with_reducible refine (spec_DrawTimesInterval _ _ us _ HU.out ((HR.out.keep bb).more zb)).mono ?_)
  rintro e w7 ⟨p, q, n, rfl, hb1⟩
  first | replace c1 := cell_kept hb1 (by first | omega | (simp; omega)) c1 | replace c1 := cell_kept hb1 (by first | omega | (simp; omega)) (cell_alloc c1 (by omega) _)
  replace zc1 := lt_cell c1 (by simp)
  first | replace c2 := cell_kept hb1 (by first | omega | (simp; omega)) c2 | replace c2 := cell_kept hb1 (by first | omega | (simp; omega)) (cell_alloc c2 (by omega) _)
  replace zc2 := lt_cell c2 (by simp)
  first | replace c3 := cell_kept hb1 (by first | omega | (simp; omega)) c3 | replace c3 := cell_kept hb1 (by first | omega | (simp; omega)) (cell_alloc c3 (by omega) _)
  replace zc3 := lt_cell c3 (by simp)
  first | replace c4 := cell_kept hb1 (by first | omega | (simp; omega)) c4 | replace c4 := cell_kept hb1 (by first | omega | (simp; omega)) (cell_alloc c4 (by omega) _)
  replace zc4 := lt_cell c4 (by simp)
  replace bb : Below v.heap.size v w7 := bb.trans (hb1.mono zb)
  have zb := bb.size
  clear hb1
  have R1 := fun w => impl_TimesInterval p q n w
  have R2 := fun w => spec_TimesInterval p q n w
  obtain ⟨t1, t2, tc, et⟩ : ∃ t1 t2 tc, timesIv p q n = (t1, t2, tc) := ⟨_, _, _, rfl⟩
  simp only [et] at R1 R2
  replace R1 := Lib.hid R1
  replace R2 := Lib.hid R2
  replace et := Lib.hid et
  go_upto_region 7 with fail
  replace c1 := cell_alloc c1 (by omega) (.cells #[Value.int .i64 p, Value.int .i64 q] 40)
  replace zc1 := lt_cell c1 (by simp)
  replace c2 := cell_alloc c2 (by omega) (.cells #[Value.int .i64 p, Value.int .i64 q] 40)
  replace zc2 := lt_cell c2 (by simp)
  replace c3 := cell_alloc c3 (by omega) (.cells #[Value.int .i64 p, Value.int .i64 q] 40)
  replace zc3 := lt_cell c3 (by simp)
  replace c4 := cell_alloc c4 (by omega) (.cells #[Value.int .i64 p, Value.int .i64 q] 40)
  replace zc4 := lt_cell c4 (by simp)
  have c5 := cell_new w7 #[Value.int .i64 p, Value.int .i64 q] 40
  replace bb : Below v.heap.size v (w7.alloc (.cells #[Value.int .i64 p, Value.int .i64 q] 40)) := bb.alloc (by omega) _
  have zc5 := lt_cell c5 (by simp)
  generalize w7.alloc (.cells #[Value.int .i64 p, Value.int .i64 q] 40) = w8 at *
  generalize w7.heap.size = b5 at *
  have zb := bb.size
  go_wp2_with fail
  (with_reducible refine (R1.out _).mono ?_)
  rintro e w9 ⟨rfl, hb1⟩
  first | replace c1 := cell_kept hb1 (by first | omega | (simp; omega)) c1 | replace c1 := cell_kept hb1 (by first | omega | (simp; omega)) (cell_alloc c1 (by omega) _)
  replace zc1 := lt_cell c1 (by simp)
  first | replace c2 := cell_kept hb1 (by first | omega | (simp; omega)) c2 | replace c2 := cell_kept hb1 (by first | omega | (simp; omega)) (cell_alloc c2 (by omega) _)
  replace zc2 := lt_cell c2 (by simp)
  first | replace c3 := cell_kept hb1 (by first | omega | (simp; omega)) c3 | replace c3 := cell_kept hb1 (by first | omega | (simp; omega)) (cell_alloc c3 (by omega) _)
  replace zc3 := lt_cell c3 (by simp)
  first | replace c4 := cell_kept hb1 (by first | omega | (simp; omega)) c4 | replace c4 := cell_kept hb1 (by first | omega | (simp; omega)) (cell_alloc c4 (by omega) _)
  replace zc4 := lt_cell c4 (by simp)
  first | replace c5 := cell_kept hb1 (by first | omega | (simp; omega)) c5 | replace c5 := cell_kept hb1 (by first | omega | (simp; omega)) (cell_alloc c5 (by omega) _)
  replace zc5 := lt_cell c5 (by simp)
  replace bb : Below v.heap.size v w9 := Below.trans (by (repeat (first | with_reducible exact Below.refl _ _ | with_reducible assumption | ((with_reducible refine Bw.set ?_ ?_); rotate_left; focus omega) | ((with_reducible refine Bw.al ?_ ?_); rotate_left; focus (first | omega | (simp; done) | (simp; omega))) | with_reducible refine Below.drew ?_ | with_reducible refine Bw.dr ?_ _))) (hb1.mono (by first | omega | (simp; omega)))
  have zb := bb.size
  clear hb1
  go_upto_region 8 with fail
  replace c1 := cell_alloc c1 (by omega) (.cells #[Value.int .i64 t1, Value.int .i64 t2] 40)
  replace zc1 := lt_cell c1 (by simp)
  replace c2 := cell_alloc c2 (by omega) (.cells #[Value.int .i64 t1, Value.int .i64 t2] 40)
  replace zc2 := lt_cell c2 (by simp)
  replace c3 := cell_alloc c3 (by omega) (.cells #[Value.int .i64 t1, Value.int .i64 t2] 40)
  replace zc3 := lt_cell c3 (by simp)
  replace c4 := cell_alloc c4 (by omega) (.cells #[Value.int .i64 t1, Value.int .i64 t2] 40)
  replace zc4 := lt_cell c4 (by simp)
  replace c5 := cell_alloc c5 (by omega) (.cells #[Value.int .i64 t1, Value.int .i64 t2] 40)
  replace zc5 := lt_cell c5 (by simp)
  have c6 := cell_new w9 #[Value.int .i64 t1, Value.int .i64 t2] 40
  replace bb : Below v.heap.size v (w9.alloc (.cells #[Value.int .i64 t1, Value.int .i64 t2] 40)) := bb.alloc (by omega) _
  have zc6 := lt_cell c6 (by simp)
  generalize w9.alloc (.cells #[Value.int .i64 t1, Value.int .i64 t2] 40) = w10 at *
  generalize w9.heap.size = b6 at *
  have zb := bb.size
  go_wp2_with fail
  (with_reducible refine (R2.out _).mono ?_)
  rintro e w11 ⟨rfl, hb1⟩
  first | replace c1 := cell_kept hb1 (by first | omega | (simp; omega)) c1 | replace c1 := cell_kept hb1 (by first | omega | (simp; omega)) (cell_alloc c1 (by omega) _)
  replace zc1 := lt_cell c1 (by simp)
  first | replace c2 := cell_kept hb1 (by first | omega | (simp; omega)) c2 | replace c2 := cell_kept hb1 (by first | omega | (simp; omega)) (cell_alloc c2 (by omega) _)
  replace zc2 := lt_cell c2 (by simp)
  first | replace c3 := cell_kept hb1 (by first | omega | (simp; omega)) c3 | replace c3 := cell_kept hb1 (by first | omega | (simp; omega)) (cell_alloc c3 (by omega) _)
  replace zc3 := lt_cell c3 (by simp)
  first | replace c4 := cell_kept hb1 (by first | omega | (simp; omega)) c4 | replace c4 := cell_kept hb1 (by first | omega | (simp; omega)) (cell_alloc c4 (by omega) _)
  replace zc4 := lt_cell c4 (by simp)
  first | replace c5 := cell_kept hb1 (by first | omega | (simp; omega)) c5 | replace c5 := cell_kept hb1 (by first | omega | (simp; omega)) (cell_alloc c5 (by omega) _)
  replace zc5 := lt_cell c5 (by simp)
  first | replace c6 := cell_kept hb1 (by first | omega | (simp; omega)) c6 | replace c6 := cell_kept hb1 (by first | omega | (simp; omega)) (cell_alloc c6 (by omega) _)
  replace zc6 := lt_cell c6 (by simp)
  replace bb : Below v.heap.size v w11 := Below.trans (by (repeat (first | with_reducible exact Below.refl _ _ | with_reducible assumption | ((with_reducible refine Bw.set ?_ ?_); rotate_left; focus omega) | ((with_reducible refine Bw.al ?_ ?_); rotate_left; focus (first | omega | (simp; done) | (simp; omega))) | with_reducible refine Below.drew ?_ | with_reducible refine Bw.dr ?_ _))) (hb1.mono (by first | omega | (simp; omega)))
  have zb := bb.size
  clear hb1
  go_upto_region 9 with fail
  replace c1 := cell_alloc c1 (by omega) (.cells #[Value.int .i64 t1, Value.int .i64 t2] 40)
  replace zc1 := lt_cell c1 (by simp)
  replace c2 := cell_alloc c2 (by omega) (.cells #[Value.int .i64 t1, Value.int .i64 t2] 40)
  replace zc2 := lt_cell c2 (by simp)
  replace c3 := cell_alloc c3 (by omega) (.cells #[Value.int .i64 t1, Value.int .i64 t2] 40)
  replace zc3 := lt_cell c3 (by simp)
  replace c4 := cell_alloc c4 (by omega) (.cells #[Value.int .i64 t1, Value.int .i64 t2] 40)
  replace zc4 := lt_cell c4 (by simp)
  replace c5 := cell_alloc c5 (by omega) (.cells #[Value.int .i64 t1, Value.int .i64 t2] 40)
  replace zc5 := lt_cell c5 (by simp)
  replace c6 := cell_alloc c6 (by omega) (.cells #[Value.int .i64 t1, Value.int .i64 t2] 40)
  replace zc6 := lt_cell c6 (by simp)
  have c7 := cell_new w11 #[Value.int .i64 t1, Value.int .i64 t2] 40
  replace bb : Below v.heap.size v (w11.alloc (.cells #[Value.int .i64 t1, Value.int .i64 t2] 40)) := bb.alloc (by omega) _
  have zc7 := lt_cell c7 (by simp)
  generalize w11.alloc (.cells #[Value.int .i64 t1, Value.int .i64 t2] 40) = wa at *
  generalize w11.heap.size = b7 at *
  have zb := bb.size
  have cac1 := fun (y : Aft wa) => cell_kept y.hb zc1 c1
  have cac3 := fun (y : Aft wa) => cell_kept y.hb zc3 c3
  have cac4 := fun (y : Aft wa) => cell_kept y.hb zc4 c4
  have cac6 := fun (y : Aft wa) => cell_kept y.hb zc6 c6
  have cac7 := fun (y : Aft wa) => cell_kept y.hb zc7 c7
  have IA := impl_IsInterval a b
  have IB := spec_IsInterval a b
  generalize isIv a b = ib at IA IB
  replace IA := Lib.hid IA
  replace IB := Lib.hid IB
  refine region_aft wa (by kernel_rfl) (by kernel_rfl) (Below.refl _ _) ?_
  repeat (go_big_quiet_step (first | (go_at_call 44; exact aft_call (IA.out _)) | (go_at_call 45; exact aft_call (IB.out _))))
  refine wpQuiet_nil ?_
  rintro w12 ⟨⟨_, hb1⟩, rfl⟩
  clear cac1 cac3 cac4 cac6 cac7
  first | replace c1 := cell_kept hb1 (by first | omega | (simp; omega)) c1 | replace c1 := cell_kept hb1 (by first | omega | (simp; omega)) (cell_alloc c1 (by omega) _)
  replace zc1 := lt_cell c1 (by simp)
  first | replace c2 := cell_kept hb1 (by first | omega | (simp; omega)) c2 | replace c2 := cell_kept hb1 (by first | omega | (simp; omega)) (cell_alloc c2 (by omega) _)
  replace zc2 := lt_cell c2 (by simp)
  first | replace c3 := cell_kept hb1 (by first | omega | (simp; omega)) c3 | replace c3 := cell_kept hb1 (by first | omega | (simp; omega)) (cell_alloc c3 (by omega) _)
  replace zc3 := lt_cell c3 (by simp)
  first | replace c4 := cell_kept hb1 (by first | omega | (simp; omega)) c4 | replace c4 := cell_kept hb1 (by first | omega | (simp; omega)) (cell_alloc c4 (by omega) _)
  replace zc4 := lt_cell c4 (by simp)
  first | replace c5 := cell_kept hb1 (by first | omega | (simp; omega)) c5 | replace c5 := cell_kept hb1 (by first | omega | (simp; omega)) (cell_alloc c5 (by omega) _)
  replace zc5 := lt_cell c5 (by simp)
  first | replace c6 := cell_kept hb1 (by first | omega | (simp; omega)) c6 | replace c6 := cell_kept hb1 (by first | omega | (simp; omega)) (cell_alloc c6 (by omega) _)
  replace zc6 := lt_cell c6 (by simp)
  replace bb : Below v.heap.size v w12 := bb.trans (hb1.mono zb)
  have zb := bb.size
  clear hb1 c4 c7
  go_upto_region 11 with fail
  rcases times_ways p q n with ⟨t1', t2', e1, p1, p2, p3, p4, p5, p7⟩ | ⟨k, e1, hk⟩
  all_goals
    have e := et.out
    rw [e1] at e
    simp only [Prod.mk.injEq] at e
    obtain ⟨rfl, rfl, rfl⟩ := e
    clear et e1
  · have q1 : IntKind.i64.wrap (q - p) = q - p := IntWalk.i64_in _ (by omega)
    have q2 : IntKind.i64.wrap (q - p + 1) = q - p + 1 := IntWalk.i64_in _ (by omega)
    have P7 := Lib.hid p7
    clear p7
    go_upto_region 12 with fail
    go_region_held3 (fun w' => w'.cell? ⟨b5, 0, none⟩ = some (.int .i64 p) ∧ w'.cell? ⟨b5, 1, none⟩ = some (.int .i64 q))
      (first | exact ⟨c5 0, c5 1⟩ | (constructor <;> (repeat (first | rw [World.cell?_setCell_other _ _ _ _ (by simp only [ne_eq, Addr.mk.injEq, not_and]; intros; omega)] | rw [World.cell?_alloc_lt _ _ _ (by simp; omega)])) <;> first | exact c5 0 | exact c5 1))
      (first | (go_at_call 46; (with_reducible refine (laws_roll _ _ us _ _ (by omega) HU.out (by first | exact (HR.out.keep bb).more bb.size | exact (HR.out.keep bb.drew).more bb.drew.size)).mono ?_); rintro e wr ⟨gd, hgd, rfl, hd, hb1⟩; (try replace hb1 := undrewS hb1); (try replace hgd := leS hgd); have yc1 : b1 < gd := Nat.lt_of_lt_of_le zc1 hgd; replace c1 := cell_kept hb1 zc1 c1; replace zc1 := lt_cell c1 (by simp); have yc2 : b2 < gd := Nat.lt_of_lt_of_le zc2 hgd; replace c2 := cell_kept hb1 zc2 c2; replace zc2 := lt_cell c2 (by simp); have yc3 : b3 < gd := Nat.lt_of_lt_of_le zc3 hgd; replace c3 := cell_kept hb1 zc3 c3; replace zc3 := lt_cell c3 (by simp); have yc5 : b5 < gd := Nat.lt_of_lt_of_le zc5 hgd; replace c5 := cell_kept hb1 zc5 c5; replace zc5 := lt_cell c5 (by simp); have yc6 : b6 < gd := Nat.lt_of_lt_of_le zc6 hgd; replace c6 := cell_kept hb1 zc6 c6; replace zc6 := lt_cell c6 (by simp); have yv : v.heap.size ≤ gd := Nat.le_trans zb hgd; replace bb : Below v.heap.size v wr := bb.trans (hb1.mono zb); replace zb := bb.size; have HD := Lib.hid hd; clear hd hb1 hgd) | (go_at_call 47; (with_reducible refine (laws_below gd (q - p + 1) _ (by first | exact HD.out | exact HD.out.drw) (by omega)).mono ?_); rintro e wr ⟨⟨r, hr, rfl⟩, hb1⟩; (try replace hb1 := undrewB hb1); replace c1 := cell_kept hb1 yc1 c1; replace zc1 := lt_cell c1 (by simp); replace c2 := cell_kept hb1 yc2 c2; replace zc2 := lt_cell c2 (by simp); replace c3 := cell_kept hb1 yc3 c3; replace zc3 := lt_cell c3 (by simp); replace c5 := cell_kept hb1 yc5 c5; replace zc5 := lt_cell c5 (by simp); replace c6 := cell_kept hb1 yc6 c6; replace zc6 := lt_cell c6 (by simp); replace bb : Below v.heap.size v wr := bb.trans (hb1.mono yv); replace zb := bb.size; clear hb1))
    all_goals
      clear q1 q2
      obtain ⟨hr0, hr1⟩ := hr
      have q3 : IntKind.i64.wrap (p + r) = p + r := IntWalk.i64_in _ (by omega)
      rw [q3]
      clear q3
      obtain ⟨n1, n2⟩ := P7.out (p + r) (by omega) (by omega)
      have n3 := mul_bd (x := p + r) (A := 1000000000) (n := n) (B := 1000000) ⟨by omega, by omega⟩ ⟨by omega, by omega⟩
      clear hr0 hr1 P7
      generalize p + r = x0 at *
      have q4 : IntKind.i64.wrap (x0 * n) = x0 * n := IntWalk.i64_in _ (by omega)
      have q5 : wrap64 (x0 * n) = x0 * n := IntWalk.wrap64_in _ (by omega)
      go_wp2_with fail
      (with_reducible refine (inside_t (x0 * n) _ _ _ (by omega) (by omega)).mono ?_)
      rintro e w20 ⟨rfl, hb1⟩
      first | replace c1 := cell_kept hb1 (by first | omega | (simp; omega)) c1 | replace c1 := cell_kept hb1 (by first | omega | (simp; omega)) (cell_alloc c1 (by omega) _)
      replace zc1 := lt_cell c1 (by simp)
      first | replace c2 := cell_kept hb1 (by first | omega | (simp; omega)) c2 | replace c2 := cell_kept hb1 (by first | omega | (simp; omega)) (cell_alloc c2 (by omega) _)
      replace zc2 := lt_cell c2 (by simp)
      first | replace c3 := cell_kept hb1 (by first | omega | (simp; omega)) c3 | replace c3 := cell_kept hb1 (by first | omega | (simp; omega)) (cell_alloc c3 (by omega) _)
      replace zc3 := lt_cell c3 (by simp)
      first | replace c5 := cell_kept hb1 (by first | omega | (simp; omega)) c5 | replace c5 := cell_kept hb1 (by first | omega | (simp; omega)) (cell_alloc c5 (by omega) _)
      replace zc5 := lt_cell c5 (by simp)
      first | replace c6 := cell_kept hb1 (by first | omega | (simp; omega)) c6 | replace c6 := cell_kept hb1 (by first | omega | (simp; omega)) (cell_alloc c6 (by omega) _)
      replace zc6 := lt_cell c6 (by simp)
      replace bb : Below v.heap.size v w20 := bb.trans (hb1.mono (by first | omega | (simp; omega)))
      have zb := bb.size
      clear hb1 q4 q5
      rcases add_ways a b c d with ⟨s1', s2', k1, k2, k3, k4, k5, k6, k7, k8, k9, k10⟩ | ⟨k, k1, hk⟩
      · go_upto_region 15 with fail
        have e := es.out
        rw [k1] at e
        simp only [Prod.mk.injEq] at e
        obtain ⟨rfl, rfl, rfl⟩ := e
        have B1 := fun w => impl_AddIntervals c d a b w
        simp only [k2] at B1
        replace B1 := Lib.hid B1
        have q1 : IntKind.i64.wrap (b - a) = b - a := IntWalk.i64_in _ (by omega)
        have q2 : IntKind.i64.wrap (b - a + 1) = b - a + 1 := IntWalk.i64_in _ (by omega)
        have q3 : IntKind.i64.wrap (d - c) = d - c := IntWalk.i64_in _ (by omega)
        have q4 : IntKind.i64.wrap (d - c + 1) = d - c + 1 := IntWalk.i64_in _ (by omega)
        have K8 := Lib.hid k9
        have K9 := Lib.hid k10
        clear es k1 k2 k9 k10 c5 c6
        go_upto_region 17 with fail
        go_region_held3 (fun w' => w'.cell? ⟨b1, 0, none⟩ = some (.int .i64 a) ∧ w'.cell? ⟨b1, 1, none⟩ = some (.int .i64 b) ∧ w'.cell? ⟨b2, 0, none⟩ = some (.int .i64 c) ∧ w'.cell? ⟨b2, 1, none⟩ = some (.int .i64 d))
          (exact ⟨c1 0, c1 1, c2 0, c2 1⟩)
          (first | (go_at_call 46; (with_reducible refine (laws_roll _ _ us _ _ (by omega) HU.out (by first | exact (HR.out.keep bb).more bb.size | exact (HR.out.keep bb.drew).more bb.drew.size)).mono ?_); rintro e wr ⟨gd, hgd, rfl, hd, hb1⟩; (try replace hb1 := undrewS hb1); (try replace hgd := leS hgd); have yc1 : b1 < gd := Nat.lt_of_lt_of_le zc1 hgd; replace c1 := cell_kept hb1 zc1 c1; replace zc1 := lt_cell c1 (by simp); have yc2 : b2 < gd := Nat.lt_of_lt_of_le zc2 hgd; replace c2 := cell_kept hb1 zc2 c2; replace zc2 := lt_cell c2 (by simp); have yc3 : b3 < gd := Nat.lt_of_lt_of_le zc3 hgd; replace c3 := cell_kept hb1 zc3 c3; replace zc3 := lt_cell c3 (by simp); have yv : v.heap.size ≤ gd := Nat.le_trans zb hgd; replace bb : Below v.heap.size v wr := bb.trans (hb1.mono zb); replace zb := bb.size; have HD := Lib.hid hd; clear hd hb1 hgd) | (go_at_call 47; (with_reducible refine (laws_below gd (b - a + 1) _ (by first | exact HD.out | exact HD.out.drw) (by omega)).mono ?_); rintro e wr ⟨⟨r, hr, rfl⟩, hb1⟩; (try replace hb1 := undrewB hb1); replace c1 := cell_kept hb1 yc1 c1; replace zc1 := lt_cell c1 (by simp); replace c2 := cell_kept hb1 yc2 c2; replace zc2 := lt_cell c2 (by simp); replace c3 := cell_kept hb1 yc3 c3; replace zc3 := lt_cell c3 (by simp); replace bb : Below v.heap.size v wr := bb.trans (hb1.mono yv); replace zb := bb.size; clear hb1) | (go_at_call 47; (with_reducible refine (laws_below gd (d - c + 1) _ (by first | exact HD.out | exact HD.out.drw) (by omega)).mono ?_); rintro e wr ⟨⟨r2, hr2, rfl⟩, hb1⟩; (try replace hb1 := undrewB hb1); replace c1 := cell_kept hb1 yc1 c1; replace zc1 := lt_cell c1 (by simp); replace c2 := cell_kept hb1 yc2 c2; replace zc2 := lt_cell c2 (by simp); replace c3 := cell_kept hb1 yc3 c3; replace zc3 := lt_cell c3 (by simp); replace bb : Below v.heap.size v wr := bb.trans (hb1.mono yv); replace zb := bb.size; clear hb1))
        all_goals
          clear q1 q2 q3 q4
          obtain ⟨hr0, hr1⟩ := hr
          obtain ⟨hs0, hs1⟩ := hr2
          have q5 : IntKind.i64.wrap (a + r) = a + r := IntWalk.i64_in _ (by omega)
          have q6 : IntKind.i64.wrap (c + r2) = c + r2 := IntWalk.i64_in _ (by omega)
          rw [q5, q6]
          clear q5 q6
          have v1 : a ≤ a + r := by omega
          have v2 : a + r ≤ b := by omega
          have v3 : c ≤ c + r2 := by omega
          have v4 : c + r2 ≤ d := by omega
          clear hr0 hr1 hs0 hs1
          generalize a + r = x at *
          generalize c + r2 = y at *
          go_wp2_with fail
          (with_reducible refine (B1.out _).mono ?_)
          rintro e w30 ⟨rfl, hb1⟩
          first | replace c1 := cell_kept hb1 (by first | omega | (simp; omega)) c1 | replace c1 := cell_kept hb1 (by first | omega | (simp; omega)) (cell_alloc c1 (by omega) _)
          replace zc1 := lt_cell c1 (by simp)
          first | replace c2 := cell_kept hb1 (by first | omega | (simp; omega)) c2 | replace c2 := cell_kept hb1 (by first | omega | (simp; omega)) (cell_alloc c2 (by omega) _)
          replace zc2 := lt_cell c2 (by simp)
          first | replace c3 := cell_kept hb1 (by first | omega | (simp; omega)) c3 | replace c3 := cell_kept hb1 (by first | omega | (simp; omega)) (cell_alloc c3 (by omega) _)
          replace zc3 := lt_cell c3 (by simp)
          replace bb : Below v.heap.size v w30 := Below.trans (by (repeat (first | with_reducible exact Below.refl _ _ | with_reducible assumption | ((with_reducible refine Bw.set ?_ ?_); rotate_left; focus omega) | ((with_reducible refine Bw.al ?_ ?_); rotate_left; focus (first | omega | (simp; done) | (simp; omega))) | with_reducible refine Below.drew ?_ | with_reducible refine Bw.dr ?_ _))) (hb1.mono (by first | omega | (simp; omega)))
          have zb := bb.size
          clear hb1
          go_upto_region 19 with fail
          replace c1 := cell_alloc c1 (by omega) (.cells #[Value.int .i64 s1', Value.int .i64 s2'] 40)
          replace zc1 := lt_cell c1 (by simp)
          replace c2 := cell_alloc c2 (by omega) (.cells #[Value.int .i64 s1', Value.int .i64 s2'] 40)
          replace zc2 := lt_cell c2 (by simp)
          replace c3 := cell_alloc c3 (by omega) (.cells #[Value.int .i64 s1', Value.int .i64 s2'] 40)
          replace zc3 := lt_cell c3 (by simp)
          have c8 := cell_new w30 #[Value.int .i64 s1', Value.int .i64 s2'] 40
          replace bb : Below v.heap.size v (w30.alloc (.cells #[Value.int .i64 s1', Value.int .i64 s2'] 40)) := bb.alloc (by omega) _
          have zc8 := lt_cell c8 (by simp)
          generalize w30.alloc (.cells #[Value.int .i64 s1', Value.int .i64 s2'] 40) = w31 at *
          generalize w30.heap.size = b8 at *
          have zb := bb.size
          go_wp2_with fail
          (with_reducible refine (inside_t _ _ _ _ (by have := K8.out; omega) (by have := K9.out; omega)).mono ?_)
          rintro e w32 ⟨rfl, hb1⟩
          first | replace c1 := cell_kept hb1 (by first | omega | (simp; omega)) c1 | replace c1 := cell_kept hb1 (by first | omega | (simp; omega)) (cell_alloc c1 (by omega) _)
          replace zc1 := lt_cell c1 (by simp)
          first | replace c2 := cell_kept hb1 (by first | omega | (simp; omega)) c2 | replace c2 := cell_kept hb1 (by first | omega | (simp; omega)) (cell_alloc c2 (by omega) _)
          replace zc2 := lt_cell c2 (by simp)
          first | replace c3 := cell_kept hb1 (by first | omega | (simp; omega)) c3 | replace c3 := cell_kept hb1 (by first | omega | (simp; omega)) (cell_alloc c3 (by omega) _)
          replace zc3 := lt_cell c3 (by simp)
          first | replace c8 := cell_kept hb1 (by first | omega | (simp; omega)) c8 | replace c8 := cell_kept hb1 (by first | omega | (simp; omega)) (cell_alloc c8 (by omega) _)
          replace zc8 := lt_cell c8 (by simp)
          replace bb : Below v.heap.size v w32 := Below.trans (by (repeat (first | with_reducible exact Below.refl _ _ | with_reducible assumption | ((with_reducible refine Bw.set ?_ ?_); rotate_left; focus omega) | ((with_reducible refine Bw.al ?_ ?_); rotate_left; focus (first | omega | (simp; done) | (simp; omega))) | with_reducible refine Below.drew ?_ | with_reducible refine Bw.dr ?_ _))) (hb1.mono (by first | omega | (simp; omega)))
          have zb := bb.size
          clear hb1
          go_wp2_with fail
          go_ret
          exact ⟨rfl, bb⟩
      · have e := es.out
        rw [k1] at e
        simp only [Prod.mk.injEq] at e
        obtain ⟨rfl, rfl, rfl⟩ := e
        clear es k1
        go_wp2_with fail
        go_ret
        exact ⟨rfl, bb⟩
  · rcases add_ways a b c d with ⟨s1', s2', k1, k2, k3, k4, k5, k6, k7, k8, k9, k10⟩ | ⟨k, k1, hk⟩
    · go_upto_region 15 with fail
      have e := es.out
      rw [k1] at e
      simp only [Prod.mk.injEq] at e
      obtain ⟨rfl, rfl, rfl⟩ := e
      have B1 := fun w => impl_AddIntervals c d a b w
      simp only [k2] at B1
      replace B1 := Lib.hid B1
      have q1 : IntKind.i64.wrap (b - a) = b - a := IntWalk.i64_in _ (by omega)
      have q2 : IntKind.i64.wrap (b - a + 1) = b - a + 1 := IntWalk.i64_in _ (by omega)
      have q3 : IntKind.i64.wrap (d - c) = d - c := IntWalk.i64_in _ (by omega)
      have q4 : IntKind.i64.wrap (d - c + 1) = d - c + 1 := IntWalk.i64_in _ (by omega)
      have K8 := Lib.hid k9
      have K9 := Lib.hid k10
      clear es k1 k2 k9 k10 c5 c6
      go_upto_region 17 with fail
      go_region_held3 (fun w' => w'.cell? ⟨b1, 0, none⟩ = some (.int .i64 a) ∧ w'.cell? ⟨b1, 1, none⟩ = some (.int .i64 b) ∧ w'.cell? ⟨b2, 0, none⟩ = some (.int .i64 c) ∧ w'.cell? ⟨b2, 1, none⟩ = some (.int .i64 d))
        (exact ⟨c1 0, c1 1, c2 0, c2 1⟩)
        (first | (go_at_call 46; (with_reducible refine (laws_roll _ _ us _ _ (by omega) HU.out (by first | exact (HR.out.keep bb).more bb.size | exact (HR.out.keep bb.drew).more bb.drew.size)).mono ?_); rintro e wr ⟨gd, hgd, rfl, hd, hb1⟩; (try replace hb1 := undrewS hb1); (try replace hgd := leS hgd); have yc1 : b1 < gd := Nat.lt_of_lt_of_le zc1 hgd; replace c1 := cell_kept hb1 zc1 c1; replace zc1 := lt_cell c1 (by simp); have yc2 : b2 < gd := Nat.lt_of_lt_of_le zc2 hgd; replace c2 := cell_kept hb1 zc2 c2; replace zc2 := lt_cell c2 (by simp); have yc3 : b3 < gd := Nat.lt_of_lt_of_le zc3 hgd; replace c3 := cell_kept hb1 zc3 c3; replace zc3 := lt_cell c3 (by simp); have yv : v.heap.size ≤ gd := Nat.le_trans zb hgd; replace bb : Below v.heap.size v wr := bb.trans (hb1.mono zb); replace zb := bb.size; have HD := Lib.hid hd; clear hd hb1 hgd) | (go_at_call 47; (with_reducible refine (laws_below gd (b - a + 1) _ (by first | exact HD.out | exact HD.out.drw) (by omega)).mono ?_); rintro e wr ⟨⟨r, hr, rfl⟩, hb1⟩; (try replace hb1 := undrewB hb1); replace c1 := cell_kept hb1 yc1 c1; replace zc1 := lt_cell c1 (by simp); replace c2 := cell_kept hb1 yc2 c2; replace zc2 := lt_cell c2 (by simp); replace c3 := cell_kept hb1 yc3 c3; replace zc3 := lt_cell c3 (by simp); replace bb : Below v.heap.size v wr := bb.trans (hb1.mono yv); replace zb := bb.size; clear hb1) | (go_at_call 47; (with_reducible refine (laws_below gd (d - c + 1) _ (by first | exact HD.out | exact HD.out.drw) (by omega)).mono ?_); rintro e wr ⟨⟨r2, hr2, rfl⟩, hb1⟩; (try replace hb1 := undrewB hb1); replace c1 := cell_kept hb1 yc1 c1; replace zc1 := lt_cell c1 (by simp); replace c2 := cell_kept hb1 yc2 c2; replace zc2 := lt_cell c2 (by simp); replace c3 := cell_kept hb1 yc3 c3; replace zc3 := lt_cell c3 (by simp); replace bb : Below v.heap.size v wr := bb.trans (hb1.mono yv); replace zb := bb.size; clear hb1))
      all_goals
        clear q1 q2 q3 q4
        obtain ⟨hr0, hr1⟩ := hr
        obtain ⟨hs0, hs1⟩ := hr2
        have q5 : IntKind.i64.wrap (a + r) = a + r := IntWalk.i64_in _ (by omega)
        have q6 : IntKind.i64.wrap (c + r2) = c + r2 := IntWalk.i64_in _ (by omega)
        rw [q5, q6]
        clear q5 q6
        have v1 : a ≤ a + r := by omega
        have v2 : a + r ≤ b := by omega
        have v3 : c ≤ c + r2 := by omega
        have v4 : c + r2 ≤ d := by omega
        clear hr0 hr1 hs0 hs1
        generalize a + r = x at *
        generalize c + r2 = y at *
        go_wp2_with fail
        (with_reducible refine (B1.out _).mono ?_)
        rintro e w30 ⟨rfl, hb1⟩
        first | replace c1 := cell_kept hb1 (by first | omega | (simp; omega)) c1 | replace c1 := cell_kept hb1 (by first | omega | (simp; omega)) (cell_alloc c1 (by omega) _)
        replace zc1 := lt_cell c1 (by simp)
        first | replace c2 := cell_kept hb1 (by first | omega | (simp; omega)) c2 | replace c2 := cell_kept hb1 (by first | omega | (simp; omega)) (cell_alloc c2 (by omega) _)
        replace zc2 := lt_cell c2 (by simp)
        first | replace c3 := cell_kept hb1 (by first | omega | (simp; omega)) c3 | replace c3 := cell_kept hb1 (by first | omega | (simp; omega)) (cell_alloc c3 (by omega) _)
        replace zc3 := lt_cell c3 (by simp)
        replace bb : Below v.heap.size v w30 := Below.trans (by (repeat (first | with_reducible exact Below.refl _ _ | with_reducible assumption | ((with_reducible refine Bw.set ?_ ?_); rotate_left; focus omega) | ((with_reducible refine Bw.al ?_ ?_); rotate_left; focus (first | omega | (simp; done) | (simp; omega))) | with_reducible refine Below.drew ?_ | with_reducible refine Bw.dr ?_ _))) (hb1.mono (by first | omega | (simp; omega)))
        have zb := bb.size
        clear hb1
        go_upto_region 19 with fail
        replace c1 := cell_alloc c1 (by omega) (.cells #[Value.int .i64 s1', Value.int .i64 s2'] 40)
        replace zc1 := lt_cell c1 (by simp)
        replace c2 := cell_alloc c2 (by omega) (.cells #[Value.int .i64 s1', Value.int .i64 s2'] 40)
        replace zc2 := lt_cell c2 (by simp)
        replace c3 := cell_alloc c3 (by omega) (.cells #[Value.int .i64 s1', Value.int .i64 s2'] 40)
        replace zc3 := lt_cell c3 (by simp)
        have c8 := cell_new w30 #[Value.int .i64 s1', Value.int .i64 s2'] 40
        replace bb : Below v.heap.size v (w30.alloc (.cells #[Value.int .i64 s1', Value.int .i64 s2'] 40)) := bb.alloc (by omega) _
        have zc8 := lt_cell c8 (by simp)
        generalize w30.alloc (.cells #[Value.int .i64 s1', Value.int .i64 s2'] 40) = w31 at *
        generalize w30.heap.size = b8 at *
        have zb := bb.size
        go_wp2_with fail
        (with_reducible refine (inside_t _ _ _ _ (by have := K8.out; omega) (by have := K9.out; omega)).mono ?_)
        rintro e w32 ⟨rfl, hb1⟩
        first | replace c1 := cell_kept hb1 (by first | omega | (simp; omega)) c1 | replace c1 := cell_kept hb1 (by first | omega | (simp; omega)) (cell_alloc c1 (by omega) _)
        replace zc1 := lt_cell c1 (by simp)
        first | replace c2 := cell_kept hb1 (by first | omega | (simp; omega)) c2 | replace c2 := cell_kept hb1 (by first | omega | (simp; omega)) (cell_alloc c2 (by omega) _)
        replace zc2 := lt_cell c2 (by simp)
        first | replace c3 := cell_kept hb1 (by first | omega | (simp; omega)) c3 | replace c3 := cell_kept hb1 (by first | omega | (simp; omega)) (cell_alloc c3 (by omega) _)
        replace zc3 := lt_cell c3 (by simp)
        first | replace c8 := cell_kept hb1 (by first | omega | (simp; omega)) c8 | replace c8 := cell_kept hb1 (by first | omega | (simp; omega)) (cell_alloc c8 (by omega) _)
        replace zc8 := lt_cell c8 (by simp)
        replace bb : Below v.heap.size v w32 := Below.trans (by (repeat (first | with_reducible exact Below.refl _ _ | with_reducible assumption | ((with_reducible refine Bw.set ?_ ?_); rotate_left; focus omega) | ((with_reducible refine Bw.al ?_ ?_); rotate_left; focus (first | omega | (simp; done) | (simp; omega))) | with_reducible refine Below.drew ?_ | with_reducible refine Bw.dr ?_ _))) (hb1.mono (by first | omega | (simp; omega)))
        have zb := bb.size
        clear hb1
        go_wp2_with fail
        go_ret
        exact ⟨rfl, bb⟩
    · have e := es.out
      rw [k1] at e
      simp only [Prod.mk.injEq] at e
      obtain ⟨rfl, rfl, rfl⟩ := e
      clear es k1
      go_wp2_with fail
      go_ret
      exact ⟨rfl, bb⟩

end Go.Proofs.Ytpejbmfapdocaaa
