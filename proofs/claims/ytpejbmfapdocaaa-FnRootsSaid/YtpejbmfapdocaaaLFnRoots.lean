/- The law FnRoots, walked: it returns true and leaves old memory alone. Condition: the code reads as bytes. -/
import Derived.Test.YtpejbmfapdocaaaDrJ
import Derived.Test.YtpejbmfapdocaaaDrL
import Derived.Test.YtpejbmfapdocaaaIvSquare
import Derived.Test.YtpejbmfapdocaaaIvRoot
namespace Go.Proofs.Ytpejbmfapdocaaa
open Go.RowKit

theorem sq_nn (a : Int) : 0 ≤ a * a := by
  rcases Int.le_total 0 a with h | h
  · exact Int.mul_nonneg h h
  · exact Int.mul_nonneg_of_nonpos_of_nonpos h h
theorem sq_le_sq {a b : Int} (h0 : 0 ≤ a) (h : a ≤ b) : a * a ≤ b * b := Int.mul_le_mul h h h0 (by omega)
theorem neg_sq (a : Int) : (-a) * (-a) = a * a := by rw [Int.neg_mul_neg]
theorem le_of_sq {a b : Int} (hb : 0 ≤ b) (h : a * a ≤ b * b) : a ≤ b := by
  rcases Int.lt_or_le b a with k | k
  · have := sq_le_sq (a := b + 1) (b := a) (by omega) (by omega)
    have e : (b + 1) * (b + 1) = b * b + 2 * b + 1 := by rw [Int.add_mul, Int.mul_add, Int.one_mul]; omega
    omega
  · exact k
theorem sq_mid {a b n : Int} (h1 : a ≤ n) (h2 : n ≤ b) : n * n ≤ max (a * a) (b * b) := by
  rcases Int.le_total 0 n with h | h
  · have := sq_le_sq h h2; omega
  · have := sq_le_sq (a := -n) (b := -a) (by omega) (by omega)
    rw [neg_sq, neg_sq] at this; omega
/-- The ways of a square. -/
theorem square_ways (a b : Int) : (∃ s1 s2, squareIv a b = (s1, s2, 0) ∧ -1000000000 ≤ a ∧ a ≤ b ∧ b ≤ 1000000000 ∧ 0 ≤ s1 ∧ s1 ≤ s2 ∧ s2 ≤ 1000000000 ∧ ∀ n, a ≤ n → n ≤ b → s1 ≤ n * n ∧ n * n ≤ s2) ∨ (∃ c, squareIv a b = (0, 0, c) ∧ c ≠ 0) := by
  rcases k1 : isIv a b with _ | _
  · exact .inr ⟨1, by rw [squareIv, k1]; rfl, by omega⟩
  obtain ⟨p1, p2, p3⟩ := isIv_t k1
  have e : squareIv a b = asIv (if a ≤ 0 ∧ 0 ≤ b then 0 else min (a * a) (b * b)) (max (a * a) (b * b)) := by rw [squareIv, k1]; rfl
  have ha := sq_nn a
  have hb := sq_nn b
  obtain ⟨s1, h1⟩ : ∃ s1, (if a ≤ 0 ∧ 0 ≤ b then 0 else min (a * a) (b * b)) = s1 := ⟨_, rfl⟩
  rw [h1] at e
  rcases k2 : isIv s1 (max (a * a) (b * b)) with _ | _
  · exact .inr ⟨3, by rw [e, asIv, k2]; rfl, by omega⟩
  obtain ⟨q1, q2, q3⟩ := isIv_t k2
  refine .inl ⟨s1, _, by rw [e, asIv, k2]; rfl, p1, p2, p3, ?_, q2, q3, fun n n1 n2 => ⟨?_, sq_mid n1 n2⟩⟩
  · rw [← h1]; split <;> omega
  · have hn := sq_nn n
    rw [← h1]
    split
    · exact hn
    · rename_i hz
      rcases Int.lt_or_le 0 a with h | h
      · have := sq_le_sq (a := a) (b := n) (by omega) n1; omega
      · have := sq_le_sq (a := -b) (b := -n) (by omega) (by omega)
        rw [neg_sq, neg_sq] at this; omega
theorem isqU_spec {n : Int} (h : 0 ≤ n) : 0 ≤ isqU n ∧ n ≤ isqU n * isqU n := by
  obtain ⟨k1, k2, k3⟩ := isqI_spec h
  unfold isqU
  split
  · exact ⟨by omega, by omega⟩
  · exact ⟨k1, by omega⟩
/-- A root of ends that are not negative. -/
theorem root_at {p q : Int} (h1 : isIv p q = true) (h2 : 0 ≤ p) : ∃ r1 r2, rootIv p q = (r1, r2, 0) ∧ 0 ≤ r1 ∧ r1 ≤ 31624 ∧ 0 ≤ r2 ∧ r2 ≤ 31624 ∧ r1 * r1 ≤ p ∧ q ≤ r2 * r2 := by
  obtain ⟨p1, p2, p3⟩ := isIv_t h1
  obtain ⟨k1, k2, _⟩ := isqI_spec h2
  obtain ⟨u1, u2⟩ := isqU_spec (n := q) (by omega)
  have e1 := isqI_end (b := p) h2 (by omega)
  have e2 := isqI_end (b := q) (by omega) p3
  refine ⟨isqI p, isqU q, by rw [rootIv, h1, if_pos rfl, if_neg (by omega)], k1, by omega, u1, ?_, k2, u2⟩
  unfold isqU
  split <;> omega
theorem root_ways (p q : Int) : (∃ r1 r2, rootIv p q = (r1, r2, 0) ∧ -1000000000 ≤ p ∧ p ≤ 1000000000 ∧ -1000000000 ≤ q ∧ q ≤ 1000000000 ∧ 0 ≤ r1 ∧ r1 ≤ 31624 ∧ 0 ≤ r2 ∧ r2 ≤ 31624 ∧ r1 * r1 ≤ p ∧ q ≤ r2 * r2) ∨ (∃ c, rootIv p q = (0, 0, c) ∧ c ≠ 0) := by
  rcases k1 : isIv p q with _ | _
  · exact .inr ⟨1, by rw [rootIv, k1]; rfl, by omega⟩
  by_cases h : p < 0
  · exact .inr ⟨5, by rw [rootIv, k1, if_pos rfl, if_pos h], by omega⟩
  · obtain ⟨p1, p2, p3⟩ := isIv_t k1
    obtain ⟨r1, r2, e, h1, h2, h3, h4, h5, h6⟩ := root_at k1 (by omega)
    exact .inl ⟨r1, r2, e, p1, by omega, by omega, p3, h1, h2, h3, h4, h5, h6⟩
set_option maxRecDepth 100000 in
set_option maxHeartbeats 8000000 in
theorem law_FnRoots (A : Option Addr) (cap : Nat) (us : List Int) (v : World) (hr : Rd v v.heap.size A (bv us)) (hm : us.length ≤ maxLen) (hby : ∀ k, 0 ≤ us.getD k 0 ∧ us.getD k 0 ≤ 255) :
    Calls Try.prog 10 #[.slice A us.length cap] v fun e w' => e = .returned (.bool true) ∧ Below v.heap.size v w' := by
  unfold maxLen at hm
  by_cases hl : 4096 < us.length
  · have hl2 := Lib.hid (show decide (4096 < (us.length : Int)) = true from decide_eq_true (by omega))
    go_enter Try.func10, Try.ntmps10
    go_wp2_with fail
    (with_reducible refine (big_any A us.length cap true _ hl2.out (by unfold maxLen; omega)).mono ?_)
    rintro e w ⟨rfl, rfl⟩
    go_wp2_with fail
    go_ret
    exact ⟨rfl, Below.refl _ _⟩
  have hl2 := Lib.hid (show decide (4096 < (us.length : Int)) = false from decide_eq_false (by omega))
  have HU := Lib.hid (show Code us from ⟨by omega, hby⟩)
  have HR := Lib.hid hr
  have HL := Lib.hid (show us.length ≤ maxLen by unfold maxLen; omega)
  clear hr hm hby hl
  have bb := Below.refl v.heap.size v
  have zb := bb.size
  go_enter Try.func10, Try.ntmps10
  go_wp2_with fail
  (with_reducible refine (big_any A us.length cap false _ hl2.out HL.out).mono ?_)
  rintro e w ⟨rfl, rfl⟩
  go_wp2_with fail
  (with_reducible refine (spec_DrawSquareInterval _ _ us _ HU.out HR.out).mono ?_)
  rintro e w1 ⟨a, b, rfl, hb1⟩
  replace bb := hb1
  replace zb := hb1.size
  clear hb1
  have M1 := fun w => impl_SquareInterval a b w
  have M2 := fun w => spec_SquareInterval a b w
  obtain ⟨s1, s2, sc, es⟩ : ∃ s1 s2 sc, squareIv a b = (s1, s2, sc) := ⟨_, _, _, rfl⟩
  simp only [es] at M1 M2
  replace M1 := Lib.hid M1
  replace M2 := Lib.hid M2
  replace es := Lib.hid es
  go_upto_region 4 with fail
  have c1 := cell_new w1 #[Value.int .i64 a, Value.int .i64 b] 40
  replace bb : Below v.heap.size v (w1.alloc (.cells #[Value.int .i64 a, Value.int .i64 b] 40)) := bb.alloc (by omega) _
  have zc1 := lt_cell c1 (by simp)
  generalize w1.alloc (.cells #[Value.int .i64 a, Value.int .i64 b] 40) = w2 at *
  generalize w1.heap.size = b1 at *
  have zb := bb.size
  go_wp2_with fail
  (with_reducible refine (M1.out _).mono ?_)
  rintro e w3 ⟨rfl, hb1⟩
  first | replace c1 := cell_kept hb1 (by first | omega | (simp; omega)) c1 | replace c1 := cell_kept hb1 (by first | omega | (simp; omega)) (cell_alloc c1 (by omega) _)
  replace zc1 := lt_cell c1 (by simp)
  replace bb : Below v.heap.size v w3 := Below.trans (by (repeat (first | with_reducible exact Below.refl _ _ | with_reducible assumption | ((with_reducible refine Bw.set ?_ ?_); rotate_left; focus omega) | ((with_reducible refine Bw.al ?_ ?_); rotate_left; focus (first | omega | (simp; done) | (simp; omega))) | with_reducible refine Below.drew ?_ | with_reducible refine Bw.dr ?_ _))) (hb1.mono (by first | omega | (simp; omega)))
  have zb := bb.size
  clear hb1
  go_upto_region 5 with fail
  replace c1 := cell_alloc c1 (by omega) (.cells #[Value.int .i64 s1, Value.int .i64 s2] 40)
  replace zc1 := lt_cell c1 (by simp)
  have c2 := cell_new w3 #[Value.int .i64 s1, Value.int .i64 s2] 40
  replace bb : Below v.heap.size v (w3.alloc (.cells #[Value.int .i64 s1, Value.int .i64 s2] 40)) := bb.alloc (by omega) _
  have zc2 := lt_cell c2 (by simp)
  generalize w3.alloc (.cells #[Value.int .i64 s1, Value.int .i64 s2] 40) = w4 at *
  generalize w3.heap.size = b2 at *
  have zb := bb.size
  go_wp2_with fail
  (with_reducible refine (M2.out _).mono ?_)
  rintro e w5 ⟨rfl, hb1⟩
  first | replace c1 := cell_kept hb1 (by first | omega | (simp; omega)) c1 | replace c1 := cell_kept hb1 (by first | omega | (simp; omega)) (cell_alloc c1 (by omega) _)
  replace zc1 := lt_cell c1 (by simp)
  first | replace c2 := cell_kept hb1 (by first | omega | (simp; omega)) c2 | replace c2 := cell_kept hb1 (by first | omega | (simp; omega)) (cell_alloc c2 (by omega) _)
  replace zc2 := lt_cell c2 (by simp)
  replace bb : Below v.heap.size v w5 := Below.trans (by (repeat (first | with_reducible exact Below.refl _ _ | with_reducible assumption | ((with_reducible refine Bw.set ?_ ?_); rotate_left; focus omega) | ((with_reducible refine Bw.al ?_ ?_); rotate_left; focus (first | omega | (simp; done) | (simp; omega))) | with_reducible refine Below.drew ?_ | with_reducible refine Bw.dr ?_ _))) (hb1.mono (by first | omega | (simp; omega)))
  have zb := bb.size
  clear hb1
  go_upto_region 6 with fail
  replace c1 := cell_alloc c1 (by omega) (.cells #[Value.int .i64 s1, Value.int .i64 s2] 40)
  replace zc1 := lt_cell c1 (by simp)
  replace c2 := cell_alloc c2 (by omega) (.cells #[Value.int .i64 s1, Value.int .i64 s2] 40)
  replace zc2 := lt_cell c2 (by simp)
  have c3 := cell_new w5 #[Value.int .i64 s1, Value.int .i64 s2] 40
  replace bb : Below v.heap.size v (w5.alloc (.cells #[Value.int .i64 s1, Value.int .i64 s2] 40)) := bb.alloc (by omega) _
  have zc3 := lt_cell c3 (by simp)
  generalize w5.alloc (.cells #[Value.int .i64 s1, Value.int .i64 s2] 40) = w6 at *
  generalize w5.heap.size = b3 at *
  have zb := bb.size
  go_wp2_with fail
  (with_reducible refine (spec_DrawRootInterval _ _ us _ HU.out ((HR.out.keep bb).more zb)).mono ?_)
  rintro e w7 ⟨p, q, rfl, hb1⟩
  first | replace c1 := cell_kept hb1 (by first | omega | (simp; omega)) c1 | replace c1 := cell_kept hb1 (by first | omega | (simp; omega)) (cell_alloc c1 (by omega) _)
  replace zc1 := lt_cell c1 (by simp)
  first | replace c2 := cell_kept hb1 (by first | omega | (simp; omega)) c2 | replace c2 := cell_kept hb1 (by first | omega | (simp; omega)) (cell_alloc c2 (by omega) _)
  replace zc2 := lt_cell c2 (by simp)
  first | replace c3 := cell_kept hb1 (by first | omega | (simp; omega)) c3 | replace c3 := cell_kept hb1 (by first | omega | (simp; omega)) (cell_alloc c3 (by omega) _)
  replace zc3 := lt_cell c3 (by simp)
  replace bb : Below v.heap.size v w7 := bb.trans (hb1.mono zb)
  have zb := bb.size
  clear hb1
  have R1 := fun w => impl_RootInterval p q w
  have R2 := fun w => spec_RootInterval p q w
  obtain ⟨r1, r2, rc, er⟩ : ∃ r1 r2 rc, rootIv p q = (r1, r2, rc) := ⟨_, _, _, rfl⟩
  simp only [er] at R1 R2
  replace R1 := Lib.hid R1
  replace R2 := Lib.hid R2
  replace er := Lib.hid er
  go_upto_region 7 with fail
  replace c1 := cell_alloc c1 (by omega) (.cells #[Value.int .i64 p, Value.int .i64 q] 40)
  replace zc1 := lt_cell c1 (by simp)
  replace c2 := cell_alloc c2 (by omega) (.cells #[Value.int .i64 p, Value.int .i64 q] 40)
  replace zc2 := lt_cell c2 (by simp)
  replace c3 := cell_alloc c3 (by omega) (.cells #[Value.int .i64 p, Value.int .i64 q] 40)
  replace zc3 := lt_cell c3 (by simp)
  have c4 := cell_new w7 #[Value.int .i64 p, Value.int .i64 q] 40
  replace bb : Below v.heap.size v (w7.alloc (.cells #[Value.int .i64 p, Value.int .i64 q] 40)) := bb.alloc (by omega) _
  have zc4 := lt_cell c4 (by simp)
  generalize w7.alloc (.cells #[Value.int .i64 p, Value.int .i64 q] 40) = w8 at *
  generalize w7.heap.size = b4 at *
  have zb := bb.size
  go_wp2_with fail
  (with_reducible refine (R1.out _).mono ?_)
  rintro e w9 ⟨rfl, hb1⟩
  first | replace c1 := cell_kept hb1 (by first | omega | (simp; omega)) c1 | replace c1 := cell_kept hb1 (by first | omega | (simp; omega)) (cell_alloc c1 (by omega) _)
  replace zc1 := lt_cell c1 (by simp)
  first | replace c2 := cell_kept hb1 (by first | omega | (simp; omega)) c2 | replace c2 := cell_kept hb1 (by first | omega | (simp; omega)) (cell_alloc c2 (by omega) _)
  replace zc2 := lt_cell c2 (by simp)
  first | replace c3 := cell_kept hb1 (by first | omega | (simp; omega)) c3 | replace c3 := cell_kept hb1 (by first | omega | (simp; omega)) (cell_alloc c3 (by omega) _)
  replace zc3 := lt_cell c3 (by simp)
  first | replace c4 := cell_kept hb1 (by first | omega | (simp; omega)) c4 | replace c4 := cell_kept hb1 (by first | omega | (simp; omega)) (cell_alloc c4 (by omega) _)
  replace zc4 := lt_cell c4 (by simp)
  replace bb : Below v.heap.size v w9 := Below.trans (by (repeat (first | with_reducible exact Below.refl _ _ | with_reducible assumption | ((with_reducible refine Bw.set ?_ ?_); rotate_left; focus omega) | ((with_reducible refine Bw.al ?_ ?_); rotate_left; focus (first | omega | (simp; done) | (simp; omega))) | with_reducible refine Below.drew ?_ | with_reducible refine Bw.dr ?_ _))) (hb1.mono (by first | omega | (simp; omega)))
  have zb := bb.size
  clear hb1
  go_upto_region 8 with fail
  replace c1 := cell_alloc c1 (by omega) (.cells #[Value.int .i64 r1, Value.int .i64 r2] 40)
  replace zc1 := lt_cell c1 (by simp)
  replace c2 := cell_alloc c2 (by omega) (.cells #[Value.int .i64 r1, Value.int .i64 r2] 40)
  replace zc2 := lt_cell c2 (by simp)
  replace c3 := cell_alloc c3 (by omega) (.cells #[Value.int .i64 r1, Value.int .i64 r2] 40)
  replace zc3 := lt_cell c3 (by simp)
  replace c4 := cell_alloc c4 (by omega) (.cells #[Value.int .i64 r1, Value.int .i64 r2] 40)
  replace zc4 := lt_cell c4 (by simp)
  have c5 := cell_new w9 #[Value.int .i64 r1, Value.int .i64 r2] 40
  replace bb : Below v.heap.size v (w9.alloc (.cells #[Value.int .i64 r1, Value.int .i64 r2] 40)) := bb.alloc (by omega) _
  have zc5 := lt_cell c5 (by simp)
  generalize w9.alloc (.cells #[Value.int .i64 r1, Value.int .i64 r2] 40) = w10 at *
  generalize w9.heap.size = b5 at *
  have zb := bb.size
  go_wp2_with fail
  (with_reducible refine (R2.out _).mono ?_)
  rintro e w11 ⟨rfl, hb1⟩
  first | replace c1 := cell_kept hb1 (by first | omega | (simp; omega)) c1 | replace c1 := cell_kept hb1 (by first | omega | (simp; omega)) (cell_alloc c1 (by omega) _)
  replace zc1 := lt_cell c1 (by simp)
  first | replace c2 := cell_kept hb1 (by first | omega | (simp; omega)) c2 | replace c2 := cell_kept hb1 (by first | omega | (simp; omega)) (cell_alloc c2 (by omega) _)
  replace zc2 := lt_cell c2 (by simp)
  first | replace c3 := cell_kept hb1 (by first | omega | (simp; omega)) c3 | replace c3 := cell_kept hb1 (by first | omega | (simp; omega)) (cell_alloc c3 (by omega) _)
  replace zc3 := lt_cell c3 (by simp)
  first | replace c4 := cell_kept hb1 (by first | omega | (simp; omega)) c4 | replace c4 := cell_kept hb1 (by first | omega | (simp; omega)) (cell_alloc c4 (by omega) _)
  replace zc4 := lt_cell c4 (by simp)
  first | replace c5 := cell_kept hb1 (by first | omega | (simp; omega)) c5 | replace c5 := cell_kept hb1 (by first | omega | (simp; omega)) (cell_alloc c5 (by omega) _)
  replace zc5 := lt_cell c5 (by simp)
  replace bb : Below v.heap.size v w11 := Below.trans (by (repeat (first | with_reducible exact Below.refl _ _ | with_reducible assumption | ((with_reducible refine Bw.set ?_ ?_); rotate_left; focus omega) | ((with_reducible refine Bw.al ?_ ?_); rotate_left; focus (first | omega | (simp; done) | (simp; omega))) | with_reducible refine Below.drew ?_ | with_reducible refine Bw.dr ?_ _))) (hb1.mono (by first | omega | (simp; omega)))
  have zb := bb.size
  clear hb1
  go_upto_region 9 with fail
  replace c1 := cell_alloc c1 (by omega) (.cells #[Value.int .i64 r1, Value.int .i64 r2] 40)
  replace zc1 := lt_cell c1 (by simp)
  replace c2 := cell_alloc c2 (by omega) (.cells #[Value.int .i64 r1, Value.int .i64 r2] 40)
  replace zc2 := lt_cell c2 (by simp)
  replace c3 := cell_alloc c3 (by omega) (.cells #[Value.int .i64 r1, Value.int .i64 r2] 40)
  replace zc3 := lt_cell c3 (by simp)
  replace c4 := cell_alloc c4 (by omega) (.cells #[Value.int .i64 r1, Value.int .i64 r2] 40)
  replace zc4 := lt_cell c4 (by simp)
  replace c5 := cell_alloc c5 (by omega) (.cells #[Value.int .i64 r1, Value.int .i64 r2] 40)
  replace zc5 := lt_cell c5 (by simp)
  have c6 := cell_new w11 #[Value.int .i64 r1, Value.int .i64 r2] 40
  replace bb : Below v.heap.size v (w11.alloc (.cells #[Value.int .i64 r1, Value.int .i64 r2] 40)) := bb.alloc (by omega) _
  have zc6 := lt_cell c6 (by simp)
  generalize w11.alloc (.cells #[Value.int .i64 r1, Value.int .i64 r2] 40) = w12 at *
  generalize w11.heap.size = b6 at *
  have zb := bb.size
  go_upto_region 11 with fail
  rcases root_ways p q with ⟨r1', r2', e1, p1, p2, p3, p4, f1, f2, f3, f4, f5, f6⟩ | ⟨k, e1, hk⟩
  all_goals
    have e := er.out
    rw [e1] at e
    simp only [Prod.mk.injEq] at e
    obtain ⟨rfl, rfl, rfl⟩ := e
    clear er e1
  · have g1 : decide (p < r1' * r1') = false := decide_eq_false (by omega)
    have g2 : decide (r2' * r2' < q) = false := decide_eq_false (by omega)
    have g3 := sq_bd (x := r1') (A := 31624) ⟨f1, f2⟩
    have g4 := sq_bd (x := r2') (A := 31624) ⟨f3, f4⟩
    clear f5 f6
    rcases square_ways a b with ⟨s1', s2', k1, k2, k3, k4, k5, k6, k7, k8⟩ | ⟨k, k1, hk⟩
    · go_upto_region 13 with fail
      have e := es.out
      rw [k1] at e
      simp only [Prod.mk.injEq] at e
      obtain ⟨rfl, rfl, rfl⟩ := e
      obtain ⟨t1, t2, er2, u1, u2, u3, u4, u5, u6⟩ := root_at (p := s1') (q := s2') (isIv_mk ⟨by omega, k6, k7⟩) k5
      have B1 := fun w => impl_RootInterval s1' s2' w
      simp only [er2] at B1
      replace B1 := Lib.hid B1
      replace k8 := Lib.hid k8
      have U5 := Lib.hid u5
      have U6 := Lib.hid u6
      have q1 : IntKind.i64.wrap (b - a) = b - a := IntWalk.i64_in _ (by omega)
      have q2 : IntKind.i64.wrap (b - a + 1) = b - a + 1 := IntWalk.i64_in _ (by omega)
      clear es er2 k1 u5 u6 c3 c4 c5 c6
      go_upto_region 15 with fail
      go_region_held3 (fun w' => w'.cell? ⟨b1, 0, none⟩ = some (.int .i64 a) ∧ w'.cell? ⟨b1, 1, none⟩ = some (.int .i64 b))
        (first | exact ⟨c1 0, c1 1⟩ | (constructor <;> (repeat (first | rw [World.cell?_setCell_other _ _ _ _ (by simp only [ne_eq, Addr.mk.injEq, not_and]; intros; omega)] | rw [World.cell?_alloc_lt _ _ _ (by simp; omega)])) <;> first | exact c1 0 | exact c1 1))
        (first | (go_at_call 46; (with_reducible refine (laws_roll _ _ us _ _ (by omega) HU.out (by first | exact (HR.out.keep bb).more bb.size | exact (HR.out.keep bb.drew).more bb.drew.size)).mono ?_); rintro e wr ⟨gd, hgd, rfl, hd, hb1⟩; (try replace hb1 := undrewS hb1); (try replace hgd := leS hgd); have yc1 : b1 < gd := Nat.lt_of_lt_of_le zc1 hgd; replace c1 := cell_kept hb1 zc1 c1; replace zc1 := lt_cell c1 (by simp); have yc2 : b2 < gd := Nat.lt_of_lt_of_le zc2 hgd; replace c2 := cell_kept hb1 zc2 c2; replace zc2 := lt_cell c2 (by simp); have yv : v.heap.size ≤ gd := Nat.le_trans zb hgd; replace bb : Below v.heap.size v wr := bb.trans (hb1.mono zb); replace zb := bb.size; have HD := Lib.hid hd; clear hd hb1 hgd) | (go_at_call 47; (with_reducible refine (laws_below gd (b - a + 1) _ (by first | exact HD.out | exact HD.out.drw) (by omega)).mono ?_); rintro e wr ⟨⟨r, hr, rfl⟩, hb1⟩; (try replace hb1 := undrewB hb1); replace c1 := cell_kept hb1 yc1 c1; replace zc1 := lt_cell c1 (by simp); replace c2 := cell_kept hb1 yc2 c2; replace zc2 := lt_cell c2 (by simp); replace bb : Below v.heap.size v wr := bb.trans (hb1.mono yv); replace zb := bb.size; clear hb1))
      all_goals
        clear q1 q2
        obtain ⟨hr0, hr1⟩ := hr
        have q3 : IntKind.i64.wrap (a + r) = a + r := IntWalk.i64_in _ (by omega)
        rw [q3]
        clear q3
        have hk := k8.out (a + r) (by omega) (by omega)
        have v1 : -1000000000 ≤ a + r := by omega
        have v2 : a + r ≤ 1000000000 := by omega
        have m1 : t1 ≤ max (a + r) (-(a + r)) := by
          have : t1 * t1 ≤ max (a + r) (-(a + r)) * max (a + r) (-(a + r)) := by
            have e1 : max (a + r) (-(a + r)) * max (a + r) (-(a + r)) = (a + r) * (a + r) := by
              rcases Int.le_total (-(a + r)) (a + r) with h | h
              · rw [show max (a + r) (-(a + r)) = a + r by omega]
              · rw [show max (a + r) (-(a + r)) = -(a + r) by omega, neg_sq]
            rw [e1]
            exact Int.le_trans U5.out hk.1
          exact le_of_sq (by omega) this
        have m2 : max (a + r) (-(a + r)) ≤ t2 := by
          refine le_of_sq u3 ?_
          have e1 : max (a + r) (-(a + r)) * max (a + r) (-(a + r)) = (a + r) * (a + r) := by
            rcases Int.le_total (-(a + r)) (a + r) with h | h
            · rw [show max (a + r) (-(a + r)) = a + r by omega]
            · rw [show max (a + r) (-(a + r)) = -(a + r) by omega, neg_sq]
          rw [e1]
          exact Int.le_trans hk.2 U6.out
        obtain ⟨hk1, hk2⟩ := hk
        have hn0 := sq_nn (a + r)
        clear hr0 hr1
        generalize a + r = n at *
        by_cases hn : 0 ≤ n
        all_goals
          go_wp2_with fail
          (with_reducible refine (B1.out _).mono ?_)
          rintro e w20 ⟨rfl, hb1⟩
          first | replace c1 := cell_kept hb1 (by first | omega | (simp; omega)) c1 | replace c1 := cell_kept hb1 (by first | omega | (simp; omega)) (cell_alloc c1 (by omega) _)
          replace zc1 := lt_cell c1 (by simp)
          first | replace c2 := cell_kept hb1 (by first | omega | (simp; omega)) c2 | replace c2 := cell_kept hb1 (by first | omega | (simp; omega)) (cell_alloc c2 (by omega) _)
          replace zc2 := lt_cell c2 (by simp)
          replace bb : Below v.heap.size v w20 := Below.trans (by (repeat (first | with_reducible exact Below.refl _ _ | with_reducible assumption | ((with_reducible refine Bw.set ?_ ?_); rotate_left; focus omega) | ((with_reducible refine Bw.al ?_ ?_); rotate_left; focus (first | omega | (simp; done) | (simp; omega))) | with_reducible refine Below.drew ?_ | with_reducible refine Bw.dr ?_ _))) (hb1.mono (by first | omega | (simp; omega)))
          have zb := bb.size
          clear hb1
          go_upto_region 17 with fail
          replace c1 := cell_alloc c1 (by omega) (.cells #[Value.int .i64 t1, Value.int .i64 t2] 40)
          replace zc1 := lt_cell c1 (by simp)
          replace c2 := cell_alloc c2 (by omega) (.cells #[Value.int .i64 t1, Value.int .i64 t2] 40)
          replace zc2 := lt_cell c2 (by simp)
          have c7 := cell_new w20 #[Value.int .i64 t1, Value.int .i64 t2] 40
          replace bb : Below v.heap.size v (w20.alloc (.cells #[Value.int .i64 t1, Value.int .i64 t2] 40)) := bb.alloc (by omega) _
          have zc7 := lt_cell c7 (by simp)
          generalize w20.alloc (.cells #[Value.int .i64 t1, Value.int .i64 t2] 40) = w21 at *
          generalize w20.heap.size = b7 at *
          have zb := bb.size
          go_wp2_with fail
          (with_reducible refine (inside_t _ _ _ _ (by omega) (by omega)).mono ?_)
          rintro e w22 ⟨rfl, hb1⟩
          first | replace c1 := cell_kept hb1 (by first | omega | (simp; omega)) c1 | replace c1 := cell_kept hb1 (by first | omega | (simp; omega)) (cell_alloc c1 (by omega) _)
          replace zc1 := lt_cell c1 (by simp)
          first | replace c2 := cell_kept hb1 (by first | omega | (simp; omega)) c2 | replace c2 := cell_kept hb1 (by first | omega | (simp; omega)) (cell_alloc c2 (by omega) _)
          replace zc2 := lt_cell c2 (by simp)
          first | replace c7 := cell_kept hb1 (by first | omega | (simp; omega)) c7 | replace c7 := cell_kept hb1 (by first | omega | (simp; omega)) (cell_alloc c7 (by omega) _)
          replace zc7 := lt_cell c7 (by simp)
          replace bb : Below v.heap.size v w22 := Below.trans (by (repeat (first | with_reducible exact Below.refl _ _ | with_reducible assumption | ((with_reducible refine Bw.set ?_ ?_); rotate_left; focus omega) | ((with_reducible refine Bw.al ?_ ?_); rotate_left; focus (first | omega | (simp; done) | (simp; omega))) | with_reducible refine Below.drew ?_ | with_reducible refine Bw.dr ?_ _))) (hb1.mono (by first | omega | (simp; omega)))
          have zb := bb.size
          clear hb1
          go_wp2_with fail
          (with_reducible refine (inside_t _ _ _ _ (by omega) (by omega)).mono ?_)
          rintro e w23 ⟨rfl, hb1⟩
          first | replace c1 := cell_kept hb1 (by first | omega | (simp; omega)) c1 | replace c1 := cell_kept hb1 (by first | omega | (simp; omega)) (cell_alloc c1 (by omega) _)
          replace zc1 := lt_cell c1 (by simp)
          first | replace c2 := cell_kept hb1 (by first | omega | (simp; omega)) c2 | replace c2 := cell_kept hb1 (by first | omega | (simp; omega)) (cell_alloc c2 (by omega) _)
          replace zc2 := lt_cell c2 (by simp)
          first | replace c7 := cell_kept hb1 (by first | omega | (simp; omega)) c7 | replace c7 := cell_kept hb1 (by first | omega | (simp; omega)) (cell_alloc c7 (by omega) _)
          replace zc7 := lt_cell c7 (by simp)
          replace bb : Below v.heap.size v w23 := Below.trans (by (repeat (first | with_reducible exact Below.refl _ _ | with_reducible assumption | ((with_reducible refine Bw.set ?_ ?_); rotate_left; focus omega) | ((with_reducible refine Bw.al ?_ ?_); rotate_left; focus (first | omega | (simp; done) | (simp; omega))) | with_reducible refine Below.drew ?_ | with_reducible refine Bw.dr ?_ _))) (hb1.mono (by first | omega | (simp; omega)))
          have zb := bb.size
          clear hb1
          go_wp2_with fail
          go_ret
          exact ⟨rfl, bb⟩
    · have e := es.out
      rw [k1] at e
      simp only [Prod.mk.injEq] at e
      obtain ⟨rfl, rfl, rfl⟩ := e
      clear es k1
      go_wp2_with fail
      go_ret
      exact ⟨rfl, bb⟩
  · rcases square_ways a b with ⟨s1', s2', k1, k2, k3, k4, k5, k6, k7, k8⟩ | ⟨k', k1, hk'⟩
    · go_upto_region 13 with fail
      have e := es.out
      rw [k1] at e
      simp only [Prod.mk.injEq] at e
      obtain ⟨rfl, rfl, rfl⟩ := e
      obtain ⟨t1, t2, er2, u1, u2, u3, u4, u5, u6⟩ := root_at (p := s1') (q := s2') (isIv_mk ⟨by omega, k6, k7⟩) k5
      have B1 := fun w => impl_RootInterval s1' s2' w
      simp only [er2] at B1
      replace B1 := Lib.hid B1
      replace k8 := Lib.hid k8
      have U5 := Lib.hid u5
      have U6 := Lib.hid u6
      have q1 : IntKind.i64.wrap (b - a) = b - a := IntWalk.i64_in _ (by omega)
      have q2 : IntKind.i64.wrap (b - a + 1) = b - a + 1 := IntWalk.i64_in _ (by omega)
      clear es er2 k1 u5 u6 c3 c4 c5 c6
      go_upto_region 15 with fail
      go_region_held3 (fun w' => w'.cell? ⟨b1, 0, none⟩ = some (.int .i64 a) ∧ w'.cell? ⟨b1, 1, none⟩ = some (.int .i64 b))
        (first | exact ⟨c1 0, c1 1⟩ | (constructor <;> (repeat (first | rw [World.cell?_setCell_other _ _ _ _ (by simp only [ne_eq, Addr.mk.injEq, not_and]; intros; omega)] | rw [World.cell?_alloc_lt _ _ _ (by simp; omega)])) <;> first | exact c1 0 | exact c1 1))
        (first | (go_at_call 46; (with_reducible refine (laws_roll _ _ us _ _ (by omega) HU.out (by first | exact (HR.out.keep bb).more bb.size | exact (HR.out.keep bb.drew).more bb.drew.size)).mono ?_); rintro e wr ⟨gd, hgd, rfl, hd, hb1⟩; (try replace hb1 := undrewS hb1); (try replace hgd := leS hgd); have yc1 : b1 < gd := Nat.lt_of_lt_of_le zc1 hgd; replace c1 := cell_kept hb1 zc1 c1; replace zc1 := lt_cell c1 (by simp); have yc2 : b2 < gd := Nat.lt_of_lt_of_le zc2 hgd; replace c2 := cell_kept hb1 zc2 c2; replace zc2 := lt_cell c2 (by simp); have yv : v.heap.size ≤ gd := Nat.le_trans zb hgd; replace bb : Below v.heap.size v wr := bb.trans (hb1.mono zb); replace zb := bb.size; have HD := Lib.hid hd; clear hd hb1 hgd) | (go_at_call 47; (with_reducible refine (laws_below gd (b - a + 1) _ (by first | exact HD.out | exact HD.out.drw) (by omega)).mono ?_); rintro e wr ⟨⟨r, hr, rfl⟩, hb1⟩; (try replace hb1 := undrewB hb1); replace c1 := cell_kept hb1 yc1 c1; replace zc1 := lt_cell c1 (by simp); replace c2 := cell_kept hb1 yc2 c2; replace zc2 := lt_cell c2 (by simp); replace bb : Below v.heap.size v wr := bb.trans (hb1.mono yv); replace zb := bb.size; clear hb1))
      all_goals
        clear q1 q2
        obtain ⟨hr0, hr1⟩ := hr
        have q3 : IntKind.i64.wrap (a + r) = a + r := IntWalk.i64_in _ (by omega)
        rw [q3]
        clear q3
        have hk := k8.out (a + r) (by omega) (by omega)
        have v1 : -1000000000 ≤ a + r := by omega
        have v2 : a + r ≤ 1000000000 := by omega
        have m1 : t1 ≤ max (a + r) (-(a + r)) := by
          have : t1 * t1 ≤ max (a + r) (-(a + r)) * max (a + r) (-(a + r)) := by
            have e1 : max (a + r) (-(a + r)) * max (a + r) (-(a + r)) = (a + r) * (a + r) := by
              rcases Int.le_total (-(a + r)) (a + r) with h | h
              · rw [show max (a + r) (-(a + r)) = a + r by omega]
              · rw [show max (a + r) (-(a + r)) = -(a + r) by omega, neg_sq]
            rw [e1]
            exact Int.le_trans U5.out hk.1
          exact le_of_sq (by omega) this
        have m2 : max (a + r) (-(a + r)) ≤ t2 := by
          refine le_of_sq u3 ?_
          have e1 : max (a + r) (-(a + r)) * max (a + r) (-(a + r)) = (a + r) * (a + r) := by
            rcases Int.le_total (-(a + r)) (a + r) with h | h
            · rw [show max (a + r) (-(a + r)) = a + r by omega]
            · rw [show max (a + r) (-(a + r)) = -(a + r) by omega, neg_sq]
          rw [e1]
          exact Int.le_trans hk.2 U6.out
        obtain ⟨hk1, hk2⟩ := hk
        have hn0 := sq_nn (a + r)
        clear hr0 hr1
        generalize a + r = n at *
        by_cases hn : 0 ≤ n
        all_goals
          go_wp2_with fail
          (with_reducible refine (B1.out _).mono ?_)
          rintro e w20 ⟨rfl, hb1⟩
          first | replace c1 := cell_kept hb1 (by first | omega | (simp; omega)) c1 | replace c1 := cell_kept hb1 (by first | omega | (simp; omega)) (cell_alloc c1 (by omega) _)
          replace zc1 := lt_cell c1 (by simp)
          first | replace c2 := cell_kept hb1 (by first | omega | (simp; omega)) c2 | replace c2 := cell_kept hb1 (by first | omega | (simp; omega)) (cell_alloc c2 (by omega) _)
          replace zc2 := lt_cell c2 (by simp)
          replace bb : Below v.heap.size v w20 := Below.trans (by (repeat (first | with_reducible exact Below.refl _ _ | with_reducible assumption | ((with_reducible refine Bw.set ?_ ?_); rotate_left; focus omega) | ((with_reducible refine Bw.al ?_ ?_); rotate_left; focus (first | omega | (simp; done) | (simp; omega))) | with_reducible refine Below.drew ?_ | with_reducible refine Bw.dr ?_ _))) (hb1.mono (by first | omega | (simp; omega)))
          have zb := bb.size
          clear hb1
          go_upto_region 17 with fail
          replace c1 := cell_alloc c1 (by omega) (.cells #[Value.int .i64 t1, Value.int .i64 t2] 40)
          replace zc1 := lt_cell c1 (by simp)
          replace c2 := cell_alloc c2 (by omega) (.cells #[Value.int .i64 t1, Value.int .i64 t2] 40)
          replace zc2 := lt_cell c2 (by simp)
          have c7 := cell_new w20 #[Value.int .i64 t1, Value.int .i64 t2] 40
          replace bb : Below v.heap.size v (w20.alloc (.cells #[Value.int .i64 t1, Value.int .i64 t2] 40)) := bb.alloc (by omega) _
          have zc7 := lt_cell c7 (by simp)
          generalize w20.alloc (.cells #[Value.int .i64 t1, Value.int .i64 t2] 40) = w21 at *
          generalize w20.heap.size = b7 at *
          have zb := bb.size
          go_wp2_with fail
          (with_reducible refine (inside_t _ _ _ _ (by omega) (by omega)).mono ?_)
          rintro e w22 ⟨rfl, hb1⟩
          first | replace c1 := cell_kept hb1 (by first | omega | (simp; omega)) c1 | replace c1 := cell_kept hb1 (by first | omega | (simp; omega)) (cell_alloc c1 (by omega) _)
          replace zc1 := lt_cell c1 (by simp)
          first | replace c2 := cell_kept hb1 (by first | omega | (simp; omega)) c2 | replace c2 := cell_kept hb1 (by first | omega | (simp; omega)) (cell_alloc c2 (by omega) _)
          replace zc2 := lt_cell c2 (by simp)
          first | replace c7 := cell_kept hb1 (by first | omega | (simp; omega)) c7 | replace c7 := cell_kept hb1 (by first | omega | (simp; omega)) (cell_alloc c7 (by omega) _)
          replace zc7 := lt_cell c7 (by simp)
          replace bb : Below v.heap.size v w22 := Below.trans (by (repeat (first | with_reducible exact Below.refl _ _ | with_reducible assumption | ((with_reducible refine Bw.set ?_ ?_); rotate_left; focus omega) | ((with_reducible refine Bw.al ?_ ?_); rotate_left; focus (first | omega | (simp; done) | (simp; omega))) | with_reducible refine Below.drew ?_ | with_reducible refine Bw.dr ?_ _))) (hb1.mono (by first | omega | (simp; omega)))
          have zb := bb.size
          clear hb1
          go_wp2_with fail
          (with_reducible refine (inside_t _ _ _ _ (by omega) (by omega)).mono ?_)
          rintro e w23 ⟨rfl, hb1⟩
          first | replace c1 := cell_kept hb1 (by first | omega | (simp; omega)) c1 | replace c1 := cell_kept hb1 (by first | omega | (simp; omega)) (cell_alloc c1 (by omega) _)
          replace zc1 := lt_cell c1 (by simp)
          first | replace c2 := cell_kept hb1 (by first | omega | (simp; omega)) c2 | replace c2 := cell_kept hb1 (by first | omega | (simp; omega)) (cell_alloc c2 (by omega) _)
          replace zc2 := lt_cell c2 (by simp)
          first | replace c7 := cell_kept hb1 (by first | omega | (simp; omega)) c7 | replace c7 := cell_kept hb1 (by first | omega | (simp; omega)) (cell_alloc c7 (by omega) _)
          replace zc7 := lt_cell c7 (by simp)
          replace bb : Below v.heap.size v w23 := Below.trans (by (repeat (first | with_reducible exact Below.refl _ _ | with_reducible assumption | ((with_reducible refine Bw.set ?_ ?_); rotate_left; focus omega) | ((with_reducible refine Bw.al ?_ ?_); rotate_left; focus (first | omega | (simp; done) | (simp; omega))) | with_reducible refine Below.drew ?_ | with_reducible refine Bw.dr ?_ _))) (hb1.mono (by first | omega | (simp; omega)))
          have zb := bb.size
          clear hb1
          go_wp2_with fail
          go_ret
          exact ⟨rfl, bb⟩
    · have e := es.out
      rw [k1] at e
      simp only [Prod.mk.injEq] at e
      obtain ⟨rfl, rfl, rfl⟩ := e
      clear es k1
      go_wp2_with fail
      go_ret
      exact ⟨rfl, bb⟩

end Go.Proofs.Ytpejbmfapdocaaa
