/- LengthRange: the lengths for diameters that are near. No condition. -/
import Derived.Test.YtnoiijcpnjgnbaaSpC
namespace Go.Proofs.Ytnoiijcpnjgnbaa
open Go.RowKit

def lenD (h l r lo ro rh rf cr : Int) (right : Bool) (d : Int) : Int := spLen h l r lo ro rh d rf cr right
/-- The least, and the greatest, of m and the first k of f a, f (a + 1), .. -/
def mnF (f : Int → Int) (m a : Int) : Nat → Int
  | 0 => m
  | k + 1 => if f (a + k) < mnF f m a k then f (a + k) else mnF f m a k
def mxF (f : Int → Int) (m a : Int) : Nat → Int
  | 0 => m
  | k + 1 => if mxF f m a k < f (a + k) then f (a + k) else mxF f m a k
theorem mnF_le (f : Int → Int) (m a : Int) : ∀ k, mnF f m a k ≤ m ∧ ∀ j, j < k → mnF f m a k ≤ f (a + j)
  | 0 => ⟨Int.le_refl _, fun j h => absurd h (by omega)⟩
  | k + 1 => by
    obtain ⟨h1, h2⟩ := mnF_le f m a k
    rw [mnF]
    split
    · refine ⟨by omega, fun j hj => ?_⟩
      rcases Nat.lt_or_ge j k with e | e
      · have := h2 j e; omega
      · obtain rfl : j = k := by omega
        omega
    · refine ⟨h1, fun j hj => ?_⟩
      rcases Nat.lt_or_ge j k with e | e
      · exact h2 j e
      · obtain rfl : j = k := by omega
        omega
theorem mxF_le (f : Int → Int) (m a : Int) : ∀ k, m ≤ mxF f m a k ∧ ∀ j, j < k → f (a + j) ≤ mxF f m a k
  | 0 => ⟨Int.le_refl _, fun j h => absurd h (by omega)⟩
  | k + 1 => by
    obtain ⟨h1, h2⟩ := mxF_le f m a k
    rw [mxF]
    split
    · refine ⟨by omega, fun j hj => ?_⟩
      rcases Nat.lt_or_ge j k with e | e
      · have := h2 j e; omega
      · obtain rfl : j = k := by omega
        omega
    · refine ⟨h1, fun j hj => ?_⟩
      rcases Nat.lt_or_ge j k with e | e
      · exact h2 j e
      · obtain rfl : j = k := by omega
        omega
theorem mnF_min (f : Int → Int) (a : Int) {m M : Int} (h : m ≤ M) : ∀ k, mnF f m a k = min m (mnF f M a k)
  | 0 => by simp only [mnF]; omega
  | k + 1 => by
    have i := mnF_min f a h k
    simp only [mnF]
    split <;> split <;> omega
theorem mxF_max (f : Int → Int) (a : Int) {m M : Int} (h : M ≤ m) : ∀ k, mxF f m a k = max m (mxF f M a k)
  | 0 => by simp only [mxF]; omega
  | k + 1 => by
    have i := mxF_max f a h k
    simp only [mxF]
    split <;> split <;> omega
theorem mnF_in (f : Int → Int) {a m M : Int} {j k : Nat} (hj : j < k) (e : f (a + j) = m) (h : m ≤ M) : mnF f m a k = mnF f M a k := by
  have h1 := (mnF_le f M a k).2 j hj
  rw [mnF_min f a h k]
  omega
theorem mxF_in (f : Int → Int) {a m M : Int} {j k : Nat} (hj : j < k) (e : f (a + j) = m) (h : M ≤ m) : mxF f m a k = mxF f M a k := by
  have h1 := (mxF_le f M a k).2 j hj
  rw [mxF_max f a h k]
  omega
theorem mn_y {f : Int → Int} {m a d x b : Int} {k : Nat} (e : mnF f m a k = b) (hd : a + k = d) (hf : f d = x) (h : x < b) : mnF f m a (k + 1) = x := by rw [mnF, hd, e, hf, if_pos h]
theorem mn_n {f : Int → Int} {m a d x b : Int} {k : Nat} (e : mnF f m a k = b) (hd : a + k = d) (hf : f d = x) (h : ¬ x < b) : mnF f m a (k + 1) = b := by rw [mnF, hd, e, hf, if_neg h]
theorem mx_y {f : Int → Int} {m a d x b : Int} {k : Nat} (e : mxF f m a k = b) (hd : a + k = d) (hf : f d = x) (h : b < x) : mxF f m a (k + 1) = x := by rw [mxF, hd, e, hf, if_pos h]
theorem mx_n {f : Int → Int} {m a d x b : Int} {k : Nat} (e : mxF f m a k = b) (hd : a + k = d) (hf : f d = x) (h : ¬ b < x) : mxF f m a (k + 1) = b := by rw [mxF, hd, e, hf, if_neg h]
def lrF (h l r lo ro rh rd rf cr : Int) (right : Bool) (T : Int) : Int × Int × Int :=
  if wheelB h l r lo ro rh rd rf cr then (if inB T 0 20 then (if inB (rd - T) 2000 7000 && inB (rd + T) 2000 7000 then (mnF (lenD h l r lo ro rh rf cr right) 1000000000 (rd - T) (2 * T + 1).toNat, mxF (lenD h l r lo ro rh rf cr right) (-1000000000) (rd - T) (2 * T + 1).toNat, 0) else (0, 0, 5)) else (0, 0, 2)) else (0, 0, 1)
theorem lrF_n {h l r lo ro rh rd rf cr T : Int} {right : Bool} (k : wheelB h l r lo ro rh rd rf cr = false) : lrF h l r lo ro rh rd rf cr right T = (0, 0, 1) := by rw [lrF, k]; rfl
theorem lrF_r {h l r lo ro rh rd rf cr T : Int} {right : Bool} (k : wheelB h l r lo ro rh rd rf cr = true) (k2 : inB T 0 20 = false) : lrF h l r lo ro rh rd rf cr right T = (0, 0, 2) := by rw [lrF, k, k2]; rfl
theorem lrF_s {h l r lo ro rh rd rf cr T : Int} {right : Bool} (k : wheelB h l r lo ro rh rd rf cr = true) (k2 : inB T 0 20 = true) (k3 : inB (rd - T) 2000 7000 = false ∨ inB (rd + T) 2000 7000 = false) : lrF h l r lo ro rh rd rf cr right T = (0, 0, 5) := by
  rw [lrF, if_pos k, if_pos k2, if_neg]
  rcases k3 with k3 | k3 <;> simp [k3]
theorem lrF_y {h l r lo ro rh rd rf cr T a b : Int} {right : Bool} {n : Nat} (k : wheelB h l r lo ro rh rd rf cr = true) (k2 : inB T 0 20 = true) (k3 : inB (rd - T) 2000 7000 = true) (k4 : inB (rd + T) 2000 7000 = true) (hn : (n : Int) = 2 * T + 1)
    (ha : mnF (lenD h l r lo ro rh rf cr right) 1000000000 (rd - T) n = a) (hb : mxF (lenD h l r lo ro rh rf cr right) (-1000000000) (rd - T) n = b) : lrF h l r lo ro rh rd rf cr right T = (a, b, 0) := by
  rw [lrF, if_pos k, if_pos k2, if_pos (by rw [k3, k4]; rfl), ← hn, Int.toNat_natCast, ha, hb]
theorem wheelB_rd {h l r lo ro rh rd rf cr d : Int} (k : wheelB h l r lo ro rh rd rf cr = true) (hd : inB d 2000 7000 = true) : wheelB h l r lo ro rh d rf cr = true := by
  simp only [wheelB, rimB, Bool.and_eq_true] at k ⊢
  obtain ⟨k1, ⟨k2, k3, k4⟩, k5, k6⟩ := k
  exact ⟨k1, ⟨k2, hd, k4⟩, k5, k6⟩
theorem wheelB_rdn {h l r lo ro rh rf cr d : Int} (hd : inB d 2000 7000 = false) : wheelB h l r lo ro rh d rf cr = false := by
  simp [wheelB, rimB, hd]
theorem lenD_bd {h l r lo ro rh rd rf cr d x : Int} {right : Bool} (k : wheelB h l r lo ro rh rd rf cr = true) (hd : inB d 2000 7000 = true) (e : lenD h l r lo ro rh rf cr right d = x) : 388 ≤ x ∧ x ≤ 10006 := by
  subst e
  exact (whBd (wheelB_rd k hd) right).l0
theorem load2 {w : World} {g : Nat} {v0 v1 : Value} (h : ∀ i, w.cell? ⟨g, i, none⟩ = #[v0, v1][i]?) : (loadVar 49 ⟨g, 0, none⟩).run Try.prog w = .ok (.agg #[v0, v1]) w := by
  simp [go_sem, h]
theorem cell_two {w : World} {g : Nat} {u v x y : Value} (h : ∀ i, w.cell? ⟨g, i, none⟩ = #[u, v][i]?) (hx : x = u) (hy : y = v) : ∀ i, w.cell? ⟨g, i, none⟩ = #[x, y][i]? := by subst hx hy; exact h

set_option maxHeartbeats 8000000 in
theorem impl_LengthRange (h l r lo ro rh rd rf cr : Int) (right : Bool) (T : Int) (w : World) : Calls Try.prog 27 #[.agg #[.int .i64 h, .int .i64 l, .int .i64 r, .int .i64 lo, .int .i64 ro, .int .i64 rh, .int .i64 rd, .int .i64 rf, .int .i64 cr], .bool right, .int .i64 T] w fun e w' => e = .returned (.tuple #[.agg #[.int .i64 (lrF h l r lo ro rh rd rf cr right T).1, .int .i64 (lrF h l r lo ro rh rd rf cr right T).2.1], .int .i64 (lrF h l r lo ro rh rd rf cr right T).2.2]) ∧ Below w.heap.size w w' := by
  rcases h1 : wheelB h l r lo ro rh rd rf cr with _ | _
  · have HO := Lib.hid (lrF_n (right := right) (T := T) h1)
    generalize lrF h l r lo ro rh rd rf cr right T = out at *
    have HK := Lib.hid h1
    clear h1
    go_enter Try.func27, Try.ntmps27
    go_wp2_with fail
    refine (impl_IsWheel _ _ _ _ _ _ _ _ _ _).mono ?_
    rintro e w1 ⟨rfl, hb1⟩
    obtain ⟨c1, f1, c2, f2, zz, bb⟩ := kept2 hb1
    clear hb1
    rw [HK.out]
    go_wp2_with fail
    refine bodyPost_ret (v := .tuple #[.agg #[.int .i64 0, .int .i64 0], .int .i64 1]) (by simp (maxDischargeDepth := 8) [results, Try.results27, go_sem, c2]) rfl ⟨?_, ?_⟩
    · rw [HO.out]
    · (repeat (first | with_reducible exact Below.refl _ _ | with_reducible assumption | ((with_reducible refine Bw.set ?_ ?_); rotate_left; focus omega) | ((with_reducible refine Bw.al ?_ ?_); rotate_left; focus (first | omega | (simp; done) | (simp; omega))) | with_reducible refine Below.drew ?_ | with_reducible refine Bw.dr ?_ _))
    

  have b0 := whBd h1 right
  have q3 := (rimB_t (wheelB_t h1).2.1).2
  have HK := Lib.hid h1
  clear h1
  rcases h2 : inB T 0 20 with _ | _
  · have HO := Lib.hid (lrF_r (right := right) HK.out h2)
    generalize lrF h l r lo ro rh rd rf cr right T = out at *
    have H2 := Lib.hid h2
    clear h2
    go_enter Try.func27, Try.ntmps27
    go_wp2_with fail
    refine (impl_IsWheel _ _ _ _ _ _ _ _ _ _).mono ?_
    rintro e w1 ⟨rfl, hb1⟩
    obtain ⟨c1, f1, c2, f2, zz, bb⟩ := kept2 hb1
    clear hb1
    rw [HK.out]
    go_wp2_with fail
    refine (impl_within _ _ _ _).mono ?_
    rintro e w2 ⟨rfl, rfl⟩
    rw [H2.out]
    go_wp2_with fail
    refine bodyPost_ret (v := .tuple #[.agg #[.int .i64 0, .int .i64 0], .int .i64 2]) (by simp (maxDischargeDepth := 8) [results, Try.results27, go_sem, c2]) rfl ⟨?_, ?_⟩
    · rw [HO.out]
    · (repeat (first | with_reducible exact Below.refl _ _ | with_reducible assumption | ((with_reducible refine Bw.set ?_ ?_); rotate_left; focus omega) | ((with_reducible refine Bw.al ?_ ?_); rotate_left; focus (first | omega | (simp; done) | (simp; omega))) | with_reducible refine Below.drew ?_ | with_reducible refine Bw.dr ?_ _))
    

  have t0 := inB_t h2
  have H2 := Lib.hid h2
  clear h2
  rcases h3 : inB (rd - T) 2000 7000 with _ | _
  · have HO := Lib.hid (lrF_s (right := right) HK.out H2.out (.inl h3))
    generalize lrF h l r lo ro rh rd rf cr right T = out at *
    have H3 := Lib.hid h3
    clear h3
    go_enter Try.func27, Try.ntmps27
    go_wp2_with fail
    refine (impl_IsWheel _ _ _ _ _ _ _ _ _ _).mono ?_
    rintro e w1 ⟨rfl, hb1⟩
    obtain ⟨c1, f1, c2, f2, zz, bb⟩ := kept2 hb1
    clear hb1
    rw [HK.out]
    go_wp2_with fail
    refine (impl_within _ _ _ _).mono ?_
    rintro e w2 ⟨rfl, rfl⟩
    rw [H2.out]
    go_wp2_with fail
    refine (impl_isDiameter _ _).mono ?_
    rintro e w3 ⟨rfl, rfl⟩
    rw [H3.out]
    go_wp2_with fail
    refine bodyPost_ret (v := .tuple #[.agg #[.int .i64 0, .int .i64 0], .int .i64 5]) (by simp (maxDischargeDepth := 8) [results, Try.results27, go_sem, c2]) rfl ⟨?_, ?_⟩
    · rw [HO.out]
    · (repeat (first | with_reducible exact Below.refl _ _ | with_reducible assumption | ((with_reducible refine Bw.set ?_ ?_); rotate_left; focus omega) | ((with_reducible refine Bw.al ?_ ?_); rotate_left; focus (first | omega | (simp; done) | (simp; omega))) | with_reducible refine Below.drew ?_ | with_reducible refine Bw.dr ?_ _))
    

  rcases h4 : inB (rd + T) 2000 7000 with _ | _
  · have HO := Lib.hid (lrF_s (right := right) HK.out H2.out (.inr h4))
    generalize lrF h l r lo ro rh rd rf cr right T = out at *
    have H3 := Lib.hid h3
    have H4 := Lib.hid h4
    clear h3 h4
    go_enter Try.func27, Try.ntmps27
    go_wp2_with fail
    refine (impl_IsWheel _ _ _ _ _ _ _ _ _ _).mono ?_
    rintro e w1 ⟨rfl, hb1⟩
    obtain ⟨c1, f1, c2, f2, zz, bb⟩ := kept2 hb1
    clear hb1
    rw [HK.out]
    go_wp2_with fail
    refine (impl_within _ _ _ _).mono ?_
    rintro e w2 ⟨rfl, rfl⟩
    rw [H2.out]
    go_wp2_with fail
    refine (impl_isDiameter _ _).mono ?_
    rintro e w3 ⟨rfl, rfl⟩
    rw [H3.out]
    go_wp2_with fail
    refine (impl_isDiameter _ _).mono ?_
    rintro e w4 ⟨rfl, rfl⟩
    rw [H4.out]
    go_wp2_with fail
    refine bodyPost_ret (v := .tuple #[.agg #[.int .i64 0, .int .i64 0], .int .i64 5]) (by simp (maxDischargeDepth := 8) [results, Try.results27, go_sem, c2]) rfl ⟨?_, ?_⟩
    · rw [HO.out]
    · (repeat (first | with_reducible exact Below.refl _ _ | with_reducible assumption | ((with_reducible refine Bw.set ?_ ?_); rotate_left; focus omega) | ((with_reducible refine Bw.al ?_ ?_); rotate_left; focus (first | omega | (simp; done) | (simp; omega))) | with_reducible refine Below.drew ?_ | with_reducible refine Bw.dr ?_ _))
    

  have d0 := inB_t h3
  have d1 := inB_t h4
  obtain ⟨n0, hn0⟩ : ∃ n, spLen h l r lo ro rh rd rf cr right = n := ⟨_, rfl⟩
  have l0 := b0.l0
  rw [hn0] at l0
  have HN := Lib.hid hn0
  have HO := Lib.hid (fun (n : Nat) (a b : Int) => lrF_y (right := right) (a := a) (b := b) (n := n) HK.out H2.out h3 h4)
  have H3 := Lib.hid h3
  have H4 := Lib.hid h4
  clear h3 h4 b0 hn0
  generalize lrF h l r lo ro rh rd rf cr right T = out at *
  go_enter Try.func27, Try.ntmps27
  go_wp2_with fail
  refine (impl_IsWheel _ _ _ _ _ _ _ _ _ _).mono ?_
  rintro e w1 ⟨rfl, hb1⟩
  obtain ⟨c1, f1, c2, f2, zz, bb⟩ := kept2 hb1
  clear hb1
  rw [HK.out]
  go_wp2_with fail
  refine (impl_within _ _ _ _).mono ?_
  rintro e w2 ⟨rfl, rfl⟩
  rw [H2.out]
  go_wp2_with fail
  refine (impl_isDiameter _ _).mono ?_
  rintro e w3 ⟨rfl, rfl⟩
  rw [H3.out]
  go_wp2_with fail
  refine (impl_isDiameter _ _).mono ?_
  rintro e w4 ⟨rfl, rfl⟩
  rw [H4.out]
  go_wp2_with fail
  refine (impl_len_b HN.out HK.out _).mono ?_
  rintro e w5 ⟨rfl, hb5⟩
  replace bb : Below w.heap.size w w5 := Below.trans (by (repeat (first | with_reducible exact Below.refl _ _ | with_reducible assumption | ((with_reducible refine Bw.set ?_ ?_); rotate_left; focus omega) | ((with_reducible refine Bw.al ?_ ?_); rotate_left; focus (first | omega | (simp; done) | (simp; omega))) | with_reducible refine Below.drew ?_ | with_reducible refine Bw.dr ?_ _))) (hb5.mono (by first | omega | (simp; done) | (simp; omega)))
  first | replace c1 := cell_kept hb5 (by first | omega | (simp; done) | (simp; omega)) c1 | replace c1 := cell_kept hb5 (by first | omega | (simp; done) | (simp; omega)) (cell_alloc c1 (by first | omega | (simp; done) | (simp; omega)) _)
  replace zc1 := lt_cell c1 (by simp)
  first | replace c2 := cell_kept hb5 (by first | omega | (simp; done) | (simp; omega)) c2 | replace c2 := cell_kept hb5 (by first | omega | (simp; done) | (simp; omega)) (cell_alloc c2 (by first | omega | (simp; done) | (simp; omega)) _)
  replace zc2 := lt_cell c2 (by simp)
  first | replace f1 := frz_kept hb5 (by first | omega | (simp; done) | (simp; omega)) f1 | replace f1 := frz_kept hb5 (by first | omega | (simp; done) | (simp; omega)) (frz_alloc f1 (by first | omega | (simp; done) | (simp; omega)) _)
  first | replace f2 := frz_kept hb5 (by first | omega | (simp; done) | (simp; omega)) f2 | replace f2 := frz_kept hb5 (by first | omega | (simp; done) | (simp; omega)) (frz_alloc f2 (by first | omega | (simp; done) | (simp; omega)) _)
  replace zz : w.heap.size + 2 ≤ w5.heap.size := by have := hb5.size; first | omega | (simp at this; omega)
  clear hb5
  go_upto_region 9 with fail
  have c9 := cell_new w5 #[Value.int .i64 n0, Value.int .i64 n0] 49
  have f9 := frz_new w5 #[Value.int .i64 n0, Value.int .i64 n0] 49
  replace c1 := cell_alloc c1 (by omega) (.cells #[Value.int .i64 n0, Value.int .i64 n0] 49)
  replace c2 := cell_alloc c2 (by omega) (.cells #[Value.int .i64 n0, Value.int .i64 n0] 49)
  replace f1 := frz_alloc f1 (by omega) (.cells #[Value.int .i64 n0, Value.int .i64 n0] 49)
  replace f2 := frz_alloc f2 (by omega) (.cells #[Value.int .i64 n0, Value.int .i64 n0] 49)
  replace bb : Below w.heap.size w (w5.alloc (.cells #[Value.int .i64 n0, Value.int .i64 n0] 49)) := by (repeat (first | with_reducible exact Below.refl _ _ | with_reducible assumption | ((with_reducible refine Bw.set ?_ ?_); rotate_left; focus omega) | ((with_reducible refine Bw.al ?_ ?_); rotate_left; focus (first | omega | (simp; done) | (simp; omega))) | with_reducible refine Below.drew ?_ | with_reducible refine Bw.dr ?_ _))
  have zX : w5.heap.size + 1 = (w5.alloc (.cells #[Value.int .i64 n0, Value.int .i64 n0] 49)).heap.size := by simp
  generalize hg : w5.heap.size = g at *
  clear hg
  generalize w5.alloc (.cells #[Value.int .i64 n0, Value.int .i64 n0] 49) = X at *
  go_wp2_with fail
  go_loopw [11, 12] (fun s11 _ wr => ∃ (k : Nat) (a b c : Int), (k : Int) ≤ 2 * T + 1 ∧ s11 = .int .i64 (rd - T + k) ∧ mnF (lenD h l r lo ro rh rf cr right) n0 (rd - T) k = a ∧ mxF (lenD h l r lo ro rh rf cr right) n0 (rd - T) k = b ∧ (∀ i, wr.cell? ⟨w.heap.size, i, none⟩ = #[Value.int .i64 h, Value.int .i64 l, Value.int .i64 r, Value.int .i64 lo, Value.int .i64 ro, Value.int .i64 rh, Value.int .i64 c, Value.int .i64 rf, Value.int .i64 cr][i]?) ∧ (∀ i, wr.cell? ⟨w.heap.size + 1, i, none⟩ = #[Value.int .i64 0, Value.int .i64 0][i]?) ∧ (∀ i, wr.cell? ⟨g, i, none⟩ = #[Value.int .i64 a, Value.int .i64 b][i]?) ∧
    (∀ i, wr.frozen? ⟨w.heap.size, i, none⟩ = false) ∧ (∀ i, wr.frozen? ⟨w.heap.size + 1, i, none⟩ = false) ∧ (∀ i, wr.frozen? ⟨g, i, none⟩ = false) ∧ g < wr.heap.size ∧ Below w.heap.size w wr) (fun s11 _ _ => (rd + T + 1 - intOf s11).toNat)
  case atStart => exact ⟨0, n0, n0, rd, by omega, by simp, rfl, rfl, c1, c2, c9, f1, f2, f9, by omega, bb⟩
  case round =>
    clear c1 c2 c9 f1 f2 f9 bb zX
    obtain ⟨k, a, b, c, hk, rfl, ha, hb, c1, c2, c9, f1, f2, f9, zg, bb⟩ := hrel
    have HA := Lib.hid ha
    have HB := Lib.hid hb
    clear ha hb
    by_cases hlt : (k : Int) ≤ 2 * T
    · obtain ⟨d, hd⟩ : ∃ d, rd - T + (k : Int) = d := ⟨_, rfl⟩
      have hdd : inB d 2000 7000 = true := inB_mk (by omega)
      have hd1 : d ≤ rd + T := by omega
      have hd3 : 0 ≤ d ∧ d ≤ 10000 := by omega
      have HD := Lib.hid hd
      rw [hd]
      have HW := Lib.hid (wheelB_rd HK.out hdd)
      obtain ⟨x, hx⟩ : ∃ x, lenD h l r lo ro rh rf cr right d = x := ⟨_, rfl⟩
      have x0 := lenD_bd HK.out hdd hx
      have HX := Lib.hid hx
      have HX2 := Lib.hid (show spLen h l r lo ro rh d rf cr right = x from hx)
      clear hx hdd hd
      go_upto_region 14 with fail
      have d1' := cell_put c1 6 (.int .i64 d) (by simp)
      replace c2 := cell_far (g' := w.heap.size) c2 (by omega) 6 (.int .i64 d)
      replace c9 := cell_far (g' := w.heap.size) c9 (by omega) 6 (.int .i64 d)
      replace f1 := frz_put (g' := w.heap.size) f1 6 (.int .i64 d)
      replace f2 := frz_put (g' := w.heap.size) f2 6 (.int .i64 d)
      replace f9 := frz_put (g' := w.heap.size) f9 6 (.int .i64 d)
      have b1 : Below w.heap.size w (wr.setCell ⟨w.heap.size, 6, none⟩ (.int .i64 d)) := by (repeat (first | with_reducible exact Below.refl _ _ | with_reducible assumption | ((with_reducible refine Bw.set ?_ ?_); rotate_left; focus omega) | ((with_reducible refine Bw.al ?_ ?_); rotate_left; focus (first | omega | (simp; done) | (simp; omega))) | with_reducible refine Below.drew ?_ | with_reducible refine Bw.dr ?_ _))
      have z1 : g < (wr.setCell ⟨w.heap.size, 6, none⟩ (.int .i64 d)).heap.size := by simpa using zg
      simp only [List.setIfInBounds_toArray, List.set_cons_succ, List.set_cons_zero] at d1'
      clear c1 bb zg
      generalize wr.setCell ⟨w.heap.size, 6, none⟩ (.int .i64 d) = Y at *
      go_wp2_with fail
      (with_reducible refine (impl_len_b (right := right) HX2.out HW.out _).mono ?_)
      rintro e w6 ⟨rfl, hb6⟩
      replace b1 := b1.trans (hb6.mono (by omega))
      replace d1' := cell_kept hb6 (by omega) d1'
      replace c2 := cell_kept hb6 (by omega) c2
      replace c9 := cell_kept hb6 (by omega) c9
      replace f1 := frz_kept hb6 (by omega) f1
      replace f2 := frz_kept hb6 (by omega) f2
      replace f9 := frz_kept hb6 (by omega) f9
      replace z1 : g < w6.heap.size := Nat.lt_of_lt_of_le z1 hb6.size
      clear hb6
      have cell3 := fun x y => cell_set2 (x := Value.int .i64 x) (y := Value.int .i64 y) c9
      have C3 := Lib.hid cell3
      clear cell3
      rcases Int.lt_or_le x a with q1 | q1
      all_goals rcases Int.lt_or_le b x with q2 | q2
      all_goals
        go_wp2_with fail
        go_roundw
      case rel => exact ⟨k + 1, x, x, d, by omega, by have := HD.out; rw [← this]; go_num, mn_y HA.out HD.out HX.out q1, mx_y HB.out HD.out HX.out q2, cell_far (cell_far d1' (by omega) 0 _) (by omega) 1 _, cell_far (cell_far c2 (by omega) 0 _) (by omega) 1 _, C3.out _ _, frz_put (frz_put f1 0 _) 1 _, frz_put (frz_put f2 0 _) 1 _, frz_put (frz_put f9 0 _) 1 _, by simpa using z1, by (repeat (first | with_reducible exact Below.refl _ _ | with_reducible assumption | ((with_reducible refine Bw.set ?_ ?_); rotate_left; focus omega) | ((with_reducible refine Bw.al ?_ ?_); rotate_left; focus (first | omega | (simp; done) | (simp; omega))) | with_reducible refine Below.drew ?_ | with_reducible refine Bw.dr ?_ _))⟩
      case measure => simp [intOf]; omega
      case rel => exact ⟨k + 1, x, b, d, by omega, by have := HD.out; rw [← this]; go_num, mn_y HA.out HD.out HX.out q1, mx_n HB.out HD.out HX.out (by omega), cell_far (cell_far d1' (by omega) 0 _) (by omega) 1 _, cell_far (cell_far c2 (by omega) 0 _) (by omega) 1 _, C3.out _ _, frz_put (frz_put f1 0 _) 1 _, frz_put (frz_put f2 0 _) 1 _, frz_put (frz_put f9 0 _) 1 _, by simpa using z1, by (repeat (first | with_reducible exact Below.refl _ _ | with_reducible assumption | ((with_reducible refine Bw.set ?_ ?_); rotate_left; focus omega) | ((with_reducible refine Bw.al ?_ ?_); rotate_left; focus (first | omega | (simp; done) | (simp; omega))) | with_reducible refine Below.drew ?_ | with_reducible refine Bw.dr ?_ _))⟩
      case measure => simp [intOf]; omega
      case rel => exact ⟨k + 1, a, x, d, by omega, by have := HD.out; rw [← this]; go_num, mn_n HA.out HD.out HX.out (by omega), mx_y HB.out HD.out HX.out q2, cell_far (cell_far d1' (by omega) 0 _) (by omega) 1 _, cell_far (cell_far c2 (by omega) 0 _) (by omega) 1 _, C3.out _ _, frz_put (frz_put f1 0 _) 1 _, frz_put (frz_put f2 0 _) 1 _, frz_put (frz_put f9 0 _) 1 _, by simpa using z1, by (repeat (first | with_reducible exact Below.refl _ _ | with_reducible assumption | ((with_reducible refine Bw.set ?_ ?_); rotate_left; focus omega) | ((with_reducible refine Bw.al ?_ ?_); rotate_left; focus (first | omega | (simp; done) | (simp; omega))) | with_reducible refine Below.drew ?_ | with_reducible refine Bw.dr ?_ _))⟩
      case measure => simp [intOf]; omega
      case rel => exact ⟨k + 1, a, b, d, by omega, by have := HD.out; rw [← this]; go_num, mn_n HA.out HD.out HX.out (by omega), mx_n HB.out HD.out HX.out (by omega), cell_far (cell_far d1' (by omega) 0 _) (by omega) 1 _, cell_far (cell_far c2 (by omega) 0 _) (by omega) 1 _, C3.out _ _, frz_put (frz_put f1 0 _) 1 _, frz_put (frz_put f2 0 _) 1 _, frz_put (frz_put f9 0 _) 1 _, by simpa using z1, by (repeat (first | with_reducible exact Below.refl _ _ | with_reducible assumption | ((with_reducible refine Bw.set ?_ ?_); rotate_left; focus omega) | ((with_reducible refine Bw.al ?_ ?_); rotate_left; focus (first | omega | (simp; done) | (simp; omega))) | with_reducible refine Below.drew ?_ | with_reducible refine Bw.dr ?_ _))⟩
      case measure => simp [intOf]; omega
    · have hk2 : (k : Int) = 2 * T + 1 := by omega
      obtain ⟨Tn, hTn⟩ : ∃ n : Nat, (n : Int) = T := ⟨T.toNat, by omega⟩
      have e0 : lenD h l r lo ro rh rf cr right (rd - T + (Tn : Int)) = n0 := by rw [show rd - T + (Tn : Int) = rd by omega]; exact HN.out
      have HE := Lib.hid (HO.out k a b hk2 ((mnF_in _ (by omega) e0 (by omega)).symm.trans HA.out) ((mxF_in _ (by omega) e0 (by omega)).symm.trans HB.out))
      clear hk2 hTn e0
      go_wp2_with fail
      refine post_cell2 (v := .agg #[.int .i64 a, .int .i64 b]) Try.results27 rfl rfl (load2 (cell_set2 c2)) ⟨by rw [HE.out]; rfl, by (repeat (first | with_reducible exact Below.refl _ _ | with_reducible assumption | ((with_reducible refine Bw.set ?_ ?_); rotate_left; focus omega) | ((with_reducible refine Bw.al ?_ ?_); rotate_left; focus (first | omega | (simp; done) | (simp; omega))) | with_reducible refine Below.drew ?_ | with_reducible refine Bw.dr ?_ _))⟩
set_option maxHeartbeats 8000000 in
theorem spec_LengthRange (h l r lo ro rh rd rf cr : Int) (right : Bool) (T : Int) (w : World) : Calls Try.prog 26 #[.agg #[.int .i64 h, .int .i64 l, .int .i64 r, .int .i64 lo, .int .i64 ro, .int .i64 rh, .int .i64 rd, .int .i64 rf, .int .i64 cr], .bool right, .int .i64 T] w fun e w' => e = .returned (.tuple #[.agg #[.int .i64 (lrF h l r lo ro rh rd rf cr right T).1, .int .i64 (lrF h l r lo ro rh rd rf cr right T).2.1], .int .i64 (lrF h l r lo ro rh rd rf cr right T).2.2]) ∧ Below w.heap.size w w' := by
  rcases h1 : wheelB h l r lo ro rh rd rf cr with _ | _
  · have HO := Lib.hid (lrF_n (right := right) (T := T) h1)
    generalize lrF h l r lo ro rh rd rf cr right T = out at *
    have HK := Lib.hid h1
    clear h1
    go_enter Try.func26, Try.ntmps26
    go_wp2_with fail
    refine (spec_IsWheel _ _ _ _ _ _ _ _ _ _).mono ?_
    rintro e w1 ⟨rfl, hb1⟩
    obtain ⟨c1, f1, c2, f2, zz, bb⟩ := kept2 hb1
    clear hb1 f1
    rw [HK.out]
    go_wp2_with fail
    refine bodyPost_ret (v := .tuple #[.agg #[.int .i64 0, .int .i64 0], .int .i64 1]) (by simp (maxDischargeDepth := 8) [results, Try.results26, go_sem, c2]) rfl ⟨?_, ?_⟩
    · rw [HO.out]
    · (repeat (first | with_reducible exact Below.refl _ _ | with_reducible assumption | ((with_reducible refine Bw.set ?_ ?_); rotate_left; focus omega) | ((with_reducible refine Bw.al ?_ ?_); rotate_left; focus (first | omega | (simp; done) | (simp; omega))) | with_reducible refine Below.drew ?_ | with_reducible refine Bw.dr ?_ _))
    

  have q3 := (rimB_t (wheelB_t h1).2.1).2
  have HK := Lib.hid h1
  clear h1
  rcases h2 : inB T 0 20 with _ | _
  · have HO := Lib.hid (lrF_r (right := right) HK.out h2)
    generalize lrF h l r lo ro rh rd rf cr right T = out at *
    have H2 := Lib.hid h2
    clear h2
    go_enter Try.func26, Try.ntmps26
    go_wp2_with fail
    refine (spec_IsWheel _ _ _ _ _ _ _ _ _ _).mono ?_
    rintro e w1 ⟨rfl, hb1⟩
    obtain ⟨c1, f1, c2, f2, zz, bb⟩ := kept2 hb1
    clear hb1 f1
    rw [HK.out]
    go_wp2_with fail
    refine (spec_In _ _ _ _).mono ?_
    rintro e w2 ⟨rfl, rfl⟩
    rw [H2.out]
    go_wp2_with fail
    refine bodyPost_ret (v := .tuple #[.agg #[.int .i64 0, .int .i64 0], .int .i64 2]) (by simp (maxDischargeDepth := 8) [results, Try.results26, go_sem, c2]) rfl ⟨?_, ?_⟩
    · rw [HO.out]
    · (repeat (first | with_reducible exact Below.refl _ _ | with_reducible assumption | ((with_reducible refine Bw.set ?_ ?_); rotate_left; focus omega) | ((with_reducible refine Bw.al ?_ ?_); rotate_left; focus (first | omega | (simp; done) | (simp; omega))) | with_reducible refine Below.drew ?_ | with_reducible refine Bw.dr ?_ _))
    

  have t0 := inB_t h2
  have H2 := Lib.hid h2
  clear h2
  have HO := Lib.hid (fun (n : Nat) (a b : Int) => lrF_y (right := right) (a := a) (b := b) (n := n) HK.out H2.out)
  have HS := Lib.hid (fun k3 => lrF_s (right := right) HK.out H2.out k3)
  generalize lrF h l r lo ro rh rd rf cr right T = out at *
  go_enter Try.func26, Try.ntmps26
  go_wp2_with fail
  refine (spec_IsWheel _ _ _ _ _ _ _ _ _ _).mono ?_
  rintro e w1 ⟨rfl, hb1⟩
  obtain ⟨c1, f1, c2, f2, zz, bb⟩ := kept2 hb1
  clear hb1 f1
  rw [HK.out]
  go_wp2_with fail
  refine (spec_In _ _ _ _).mono ?_
  rintro e w2 ⟨rfl, rfl⟩
  rw [H2.out]
  go_upto_region 6 with fail
  have c9 := cell_new w1 #[Value.int .i64 1000000000, Value.int .i64 (-1000000000)] 49
  have f9 := frz_new w1 #[Value.int .i64 1000000000, Value.int .i64 (-1000000000)] 49
  replace c1 := cell_alloc c1 (by omega) (.cells #[Value.int .i64 1000000000, Value.int .i64 (-1000000000)] 49)
  replace c2 := cell_alloc c2 (by omega) (.cells #[Value.int .i64 1000000000, Value.int .i64 (-1000000000)] 49)
  replace f2 := frz_alloc f2 (by omega) (.cells #[Value.int .i64 1000000000, Value.int .i64 (-1000000000)] 49)
  replace bb : Below w.heap.size w (w1.alloc (.cells #[Value.int .i64 1000000000, Value.int .i64 (-1000000000)] 49)) := by (repeat (first | with_reducible exact Below.refl _ _ | with_reducible assumption | ((with_reducible refine Bw.set ?_ ?_); rotate_left; focus omega) | ((with_reducible refine Bw.al ?_ ?_); rotate_left; focus (first | omega | (simp; done) | (simp; omega))) | with_reducible refine Below.drew ?_ | with_reducible refine Bw.dr ?_ _))
  have zX : w1.heap.size + 1 = (w1.alloc (.cells #[Value.int .i64 1000000000, Value.int .i64 (-1000000000)] 49)).heap.size := by simp
  generalize hg : w1.heap.size = g at *
  clear hg
  generalize w1.alloc (.cells #[Value.int .i64 1000000000, Value.int .i64 (-1000000000)] 49) = X at *
  go_wp2_with fail
  go_loopw [9, 10, 11] (fun s9 _ _ wr => ∃ (k : Nat) (a b : Int), (k : Int) ≤ 2 * T + 1 ∧ s9 = .int .i64 (-T + k) ∧ mnF (lenD h l r lo ro rh rf cr right) 1000000000 (rd - T) k = a ∧ mxF (lenD h l r lo ro rh rf cr right) (-1000000000) (rd - T) k = b ∧ (∀ j : Nat, j < k → inB (rd - T + j) 2000 7000 = true) ∧ (∀ i, wr.cell? ⟨w.heap.size, i, none⟩ = #[Value.int .i64 h, Value.int .i64 l, Value.int .i64 r, Value.int .i64 lo, Value.int .i64 ro, Value.int .i64 rh, Value.int .i64 rd, Value.int .i64 rf, Value.int .i64 cr][i]?) ∧ (∀ i, wr.cell? ⟨w.heap.size + 1, i, none⟩ = #[Value.int .i64 0, Value.int .i64 0][i]?) ∧ (∀ i, wr.cell? ⟨g, i, none⟩ = #[Value.int .i64 a, Value.int .i64 b][i]?) ∧
    (∀ i, wr.frozen? ⟨w.heap.size + 1, i, none⟩ = false) ∧ (∀ i, wr.frozen? ⟨g, i, none⟩ = false) ∧ g < wr.heap.size ∧ Below w.heap.size w wr) (fun s9 _ _ _ => (T + 1 - intOf s9).toNat)
  case atStart => exact ⟨0, _, _, by omega, by simp, rfl, rfl, fun j hj => absurd hj (by omega), c1, c2, c9, f2, f9, by omega, bb⟩
  case round =>
    clear c1 c2 c9 f2 f9 bb zX
    obtain ⟨k, a, b, hk, rfl, ha, hb, hj, c1, c2, c9, f2, f9, zg, bb⟩ := hrel
    have HA := Lib.hid ha
    have HB := Lib.hid hb
    have HJ := Lib.hid hj
    clear ha hb hj
    by_cases hlt : (k : Int) ≤ 2 * T
    · obtain ⟨e, he⟩ : ∃ e, -T + (k : Int) = e := ⟨_, rfl⟩
      obtain ⟨d, hd⟩ : ∃ d, rd + e = d := ⟨_, rfl⟩
      have he1 : e ≤ T := by omega
      have he2 : -20 ≤ e := by omega
      have hd3 : 0 ≤ d ∧ d ≤ 10000 := by omega
      have HD := Lib.hid (show rd - T + (k : Int) = d by omega)
      have HE := Lib.hid he
      have HDE := Lib.hid hd
      rw [he]
      clear he hd
      go_upto_region 10 with fail
      have cx := cell_new wr #[Value.int .i64 h, Value.int .i64 l, Value.int .i64 r, Value.int .i64 lo, Value.int .i64 ro, Value.int .i64 rh, Value.int .i64 rd, Value.int .i64 rf, Value.int .i64 cr] 39
      have fx := frz_new wr #[Value.int .i64 h, Value.int .i64 l, Value.int .i64 r, Value.int .i64 lo, Value.int .i64 ro, Value.int .i64 rh, Value.int .i64 rd, Value.int .i64 rf, Value.int .i64 cr] 39
      replace c1 := cell_alloc c1 (by omega) (.cells #[Value.int .i64 h, Value.int .i64 l, Value.int .i64 r, Value.int .i64 lo, Value.int .i64 ro, Value.int .i64 rh, Value.int .i64 rd, Value.int .i64 rf, Value.int .i64 cr] 39)
      replace c2 := cell_alloc c2 (by omega) (.cells #[Value.int .i64 h, Value.int .i64 l, Value.int .i64 r, Value.int .i64 lo, Value.int .i64 ro, Value.int .i64 rh, Value.int .i64 rd, Value.int .i64 rf, Value.int .i64 cr] 39)
      replace c9 := cell_alloc c9 (by omega) (.cells #[Value.int .i64 h, Value.int .i64 l, Value.int .i64 r, Value.int .i64 lo, Value.int .i64 ro, Value.int .i64 rh, Value.int .i64 rd, Value.int .i64 rf, Value.int .i64 cr] 39)
      replace f2 := frz_alloc f2 (by omega) (.cells #[Value.int .i64 h, Value.int .i64 l, Value.int .i64 r, Value.int .i64 lo, Value.int .i64 ro, Value.int .i64 rh, Value.int .i64 rd, Value.int .i64 rf, Value.int .i64 cr] 39)
      replace f9 := frz_alloc f9 (by omega) (.cells #[Value.int .i64 h, Value.int .i64 l, Value.int .i64 r, Value.int .i64 lo, Value.int .i64 ro, Value.int .i64 rh, Value.int .i64 rd, Value.int .i64 rf, Value.int .i64 cr] 39)
      have zX : wr.heap.size + 1 = (wr.alloc (.cells #[Value.int .i64 h, Value.int .i64 l, Value.int .i64 r, Value.int .i64 lo, Value.int .i64 ro, Value.int .i64 rh, Value.int .i64 rd, Value.int .i64 rf, Value.int .i64 cr] 39)).heap.size := by simp
      have hzb := bb.size
      replace bb : Below w.heap.size w (wr.alloc (.cells #[Value.int .i64 h, Value.int .i64 l, Value.int .i64 r, Value.int .i64 lo, Value.int .i64 ro, Value.int .i64 rh, Value.int .i64 rd, Value.int .i64 rf, Value.int .i64 cr] 39)) := by (repeat (first | with_reducible exact Below.refl _ _ | with_reducible assumption | ((with_reducible refine Bw.set ?_ ?_); rotate_left; focus omega) | ((with_reducible refine Bw.al ?_ ?_); rotate_left; focus (first | omega | (simp; done) | (simp; omega))) | with_reducible refine Below.drew ?_ | with_reducible refine Bw.dr ?_ _))
      generalize hgx : wr.heap.size = gx at *
      clear hgx
      generalize wr.alloc (.cells #[Value.int .i64 h, Value.int .i64 l, Value.int .i64 r, Value.int .i64 lo, Value.int .i64 ro, Value.int .i64 rh, Value.int .i64 rd, Value.int .i64 rf, Value.int .i64 cr] 39) = X2 at *
      go_upto_region 11 with fail
      rw [HDE.out]
      have d1' := cell_put cx 6 (.int .i64 d) (by simp)
      replace c1 := cell_far (g' := gx) c1 (by omega) 6 (.int .i64 d)
      replace c2 := cell_far (g' := gx) c2 (by omega) 6 (.int .i64 d)
      replace c9 := cell_far (g' := gx) c9 (by omega) 6 (.int .i64 d)
      replace f2 := frz_put (g' := gx) f2 6 (.int .i64 d)
      replace f9 := frz_put (g' := gx) f9 6 (.int .i64 d)
      have b1 : Below w.heap.size w (X2.setCell ⟨gx, 6, none⟩ (.int .i64 d)) := by (repeat (first | with_reducible exact Below.refl _ _ | with_reducible assumption | ((with_reducible refine Bw.set ?_ ?_); rotate_left; focus omega) | ((with_reducible refine Bw.al ?_ ?_); rotate_left; focus (first | omega | (simp; done) | (simp; omega))) | with_reducible refine Below.drew ?_ | with_reducible refine Bw.dr ?_ _))
      have z1 : gx + 1 = (X2.setCell ⟨gx, 6, none⟩ (.int .i64 d)).heap.size := by simpa using zX
      simp only [List.setIfInBounds_toArray, List.set_cons_succ, List.set_cons_zero] at d1'
      clear cx fx bb zX
      generalize X2.setCell ⟨gx, 6, none⟩ (.int .i64 d) = Y at *
      rcases hdd : inB d 2000 7000 with _ | _
      · have HW := Lib.hid (wheelB_rdn (h := h) (l := l) (r := r) (lo := lo) (ro := ro) (rh := rh) (rf := rf) (cr := cr) hdd)
        have HF := Lib.hid (HS.out (by
          have h5 := inB_f hdd
          have h6 := HD.out
          rcases h7 : inB (rd - T) 2000 7000 with _ | _
          · exact .inl rfl
          · right
            have h8 := inB_t h7
            exact inB_no (by omega)))
        clear hdd
        go_wp2_with fail
        (with_reducible refine (spec_IsWheel _ _ _ _ _ _ _ _ _ _).mono ?_)
        rintro e' w6 ⟨rfl, hb6⟩
        rw [HW.out]
        replace c2 := cell_kept hb6 (by omega) c2
        replace f2 := frz_kept hb6 (by omega) f2
        replace b1 := b1.trans (hb6.mono (by omega))
        clear hb6
        go_wp2_with fail
        refine bodyPost_ret (v := .tuple #[.agg #[.int .i64 0, .int .i64 0], .int .i64 5]) (by simp (maxDischargeDepth := 8) [results, Try.results26, go_sem, c2]) rfl ⟨?_, ?_⟩
        · rw [HF.out]
        · (repeat (first | with_reducible exact Below.refl _ _ | with_reducible assumption | ((with_reducible refine Bw.set ?_ ?_); rotate_left; focus omega) | ((with_reducible refine Bw.al ?_ ?_); rotate_left; focus (first | omega | (simp; done) | (simp; omega))) | with_reducible refine Below.drew ?_ | with_reducible refine Bw.dr ?_ _))
        

      have HDD := Lib.hid hdd
      have HW := Lib.hid (wheelB_rd HK.out hdd)
      obtain ⟨x, hx⟩ : ∃ x, lenD h l r lo ro rh rf cr right d = x := ⟨_, rfl⟩
      have x0 := lenD_bd HK.out hdd hx
      have HX := Lib.hid hx
      have HX2 := Lib.hid (show spLen h l r lo ro rh d rf cr right = x from hx)
      clear hx hdd
      go_wp2_with fail
      (with_reducible refine (spec_IsWheel _ _ _ _ _ _ _ _ _ _).mono ?_)
      rintro e' w6 ⟨rfl, hb6⟩
      rw [HW.out]
      replace b1 := b1.trans (hb6.mono (by omega))
      replace d1' := cell_kept hb6 (by omega) d1'
      replace c1 := cell_kept hb6 (by omega) c1
      replace c2 := cell_kept hb6 (by omega) c2
      replace c9 := cell_kept hb6 (by omega) c9
      replace f2 := frz_kept hb6 (by omega) f2
      replace f9 := frz_kept hb6 (by omega) f9
      replace z1 : gx < w6.heap.size := Nat.lt_of_lt_of_le (by omega) hb6.size
      clear hb6
      go_wp2_with fail
      (with_reducible refine (spec_len_b (right := right) HX2.out HW.out _).mono ?_)
      rintro e' w7 ⟨rfl, hb6⟩
      replace b1 := b1.trans (hb6.mono (by omega))
      replace c1 := cell_kept hb6 (by omega) c1
      replace c2 := cell_kept hb6 (by omega) c2
      replace c9 := cell_kept hb6 (by omega) c9
      replace f2 := frz_kept hb6 (by omega) f2
      replace f9 := frz_kept hb6 (by omega) f9
      replace z1 : gx < w7.heap.size := Nat.lt_of_lt_of_le z1 hb6.size
      clear hb6 d1'
      have C3 := Lib.hid (fun x y => cell_set2 (x := Value.int .i64 x) (y := Value.int .i64 y) c9)
      rcases Int.lt_or_le x a with q1 | q1
      all_goals rcases Int.lt_or_le b x with q2 | q2
      all_goals
        go_wp2_with fail
        go_roundw
      case rel => exact ⟨k + 1, x, x, by omega, by have := HE.out; rw [← this]; go_num, mn_y HA.out HD.out HX.out q1, mx_y HB.out HD.out HX.out q2, fun j hj => (by rcases Nat.lt_or_ge j k with e1 | e1; exact HJ.out j e1; (obtain rfl : j = k := by omega); rw [HD.out]; exact HDD.out), cell_far (cell_far c1 (by omega) 0 _) (by omega) 1 _, cell_far (cell_far c2 (by omega) 0 _) (by omega) 1 _, C3.out _ _, frz_put (frz_put f2 0 _) 1 _, frz_put (frz_put f9 0 _) 1 _, by simp; omega, by (repeat (first | with_reducible exact Below.refl _ _ | with_reducible assumption | ((with_reducible refine Bw.set ?_ ?_); rotate_left; focus omega) | ((with_reducible refine Bw.al ?_ ?_); rotate_left; focus (first | omega | (simp; done) | (simp; omega))) | with_reducible refine Below.drew ?_ | with_reducible refine Bw.dr ?_ _))⟩
      case measure => simp [intOf]; omega
      case rel => exact ⟨k + 1, x, b, by omega, by have := HE.out; rw [← this]; go_num, mn_y HA.out HD.out HX.out q1, mx_n HB.out HD.out HX.out (by omega), fun j hj => (by rcases Nat.lt_or_ge j k with e1 | e1; exact HJ.out j e1; (obtain rfl : j = k := by omega); rw [HD.out]; exact HDD.out), cell_far (cell_far c1 (by omega) 0 _) (by omega) 1 _, cell_far (cell_far c2 (by omega) 0 _) (by omega) 1 _, C3.out _ _, frz_put (frz_put f2 0 _) 1 _, frz_put (frz_put f9 0 _) 1 _, by simp; omega, by (repeat (first | with_reducible exact Below.refl _ _ | with_reducible assumption | ((with_reducible refine Bw.set ?_ ?_); rotate_left; focus omega) | ((with_reducible refine Bw.al ?_ ?_); rotate_left; focus (first | omega | (simp; done) | (simp; omega))) | with_reducible refine Below.drew ?_ | with_reducible refine Bw.dr ?_ _))⟩
      case measure => simp [intOf]; omega
      case rel => exact ⟨k + 1, a, x, by omega, by have := HE.out; rw [← this]; go_num, mn_n HA.out HD.out HX.out (by omega), mx_y HB.out HD.out HX.out q2, fun j hj => (by rcases Nat.lt_or_ge j k with e1 | e1; exact HJ.out j e1; (obtain rfl : j = k := by omega); rw [HD.out]; exact HDD.out), cell_far (cell_far c1 (by omega) 0 _) (by omega) 1 _, cell_far (cell_far c2 (by omega) 0 _) (by omega) 1 _, C3.out _ _, frz_put (frz_put f2 0 _) 1 _, frz_put (frz_put f9 0 _) 1 _, by simp; omega, by (repeat (first | with_reducible exact Below.refl _ _ | with_reducible assumption | ((with_reducible refine Bw.set ?_ ?_); rotate_left; focus omega) | ((with_reducible refine Bw.al ?_ ?_); rotate_left; focus (first | omega | (simp; done) | (simp; omega))) | with_reducible refine Below.drew ?_ | with_reducible refine Bw.dr ?_ _))⟩
      case measure => simp [intOf]; omega
      case rel => exact ⟨k + 1, a, b, by omega, by have := HE.out; rw [← this]; go_num, mn_n HA.out HD.out HX.out (by omega), mx_n HB.out HD.out HX.out (by omega), fun j hj => (by rcases Nat.lt_or_ge j k with e1 | e1; exact HJ.out j e1; (obtain rfl : j = k := by omega); rw [HD.out]; exact HDD.out), cell_far (cell_far c1 (by omega) 0 _) (by omega) 1 _, cell_far (cell_far c2 (by omega) 0 _) (by omega) 1 _, C3.out _ _, frz_put (frz_put f2 0 _) 1 _, frz_put (frz_put f9 0 _) 1 _, by simp; omega, by (repeat (first | with_reducible exact Below.refl _ _ | with_reducible assumption | ((with_reducible refine Bw.set ?_ ?_); rotate_left; focus omega) | ((with_reducible refine Bw.al ?_ ?_); rotate_left; focus (first | omega | (simp; done) | (simp; omega))) | with_reducible refine Below.drew ?_ | with_reducible refine Bw.dr ?_ _))⟩
      case measure => simp [intOf]; omega
    · have hk2 : (k : Int) = 2 * T + 1 := by omega
      have h5 : inB (rd - T) 2000 7000 = true := by have := HJ.out 0 (by omega); simpa using this
      have h6 : inB (rd + T) 2000 7000 = true := by
        have := HJ.out (2 * T).toNat (by omega)
        rw [show rd - T + (((2 * T).toNat : Nat) : Int) = rd + T by omega] at this
        exact this
      have HE := Lib.hid (HO.out k a b h5 h6 hk2 HA.out HB.out)
      clear hk2 h5 h6
      go_wp2_with fail
      refine post_cell2 (v := .agg #[.int .i64 a, .int .i64 b]) Try.results26 rfl rfl (load2 (cell_set2 c2)) ⟨by rw [HE.out]; rfl, by (repeat (first | with_reducible exact Below.refl _ _ | with_reducible assumption | ((with_reducible refine Bw.set ?_ ?_); rotate_left; focus omega) | ((with_reducible refine Bw.al ?_ ?_); rotate_left; focus (first | omega | (simp; done) | (simp; omega))) | with_reducible refine Below.drew ?_ | with_reducible refine Bw.dr ?_ _))⟩

end Go.Proofs.Ytnoiijcpnjgnbaa
