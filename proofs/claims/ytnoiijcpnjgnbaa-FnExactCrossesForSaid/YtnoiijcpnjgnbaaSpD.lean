/- CrossesFor: the crosses whose spokes come nearest to a length. No condition. -/
import Derived.Test.YtnoiijcpnjgnbaaSpC
namespace Go.Proofs.Ytnoiijcpnjgnbaa
open Go.RowKit

def absI (n : Int) : Int := if n < 0 then -n else n
theorem absI_bd {n B : Int} (h : -B ≤ n ∧ n ≤ B) : 0 ≤ absI n ∧ absI n ≤ B := by unfold absI; split <;> omega
/-- The best crosses out of the first k, and how far their length is from L; (0, -1) at first. -/
def crS (f : Int → Int) (L : Int) : Nat → Int × Int
  | 0 => (0, -1)
  | k + 1 => if (crS f L k).2 < 0 ∨ absI (f k - L) < (crS f L k).2 then ((k : Int), absI (f k - L)) else crS f L k
theorem crS_y {f : Int → Int} {L b m a d : Int} {k : Nat} (e : crS f L k = (b, m)) (hf : f k = a) (hd : absI (a - L) = d) (h : m < 0 ∨ d < m) : crS f L (k + 1) = ((k : Int), d) := by rw [crS, e, hf, hd, if_pos h]
theorem crS_n {f : Int → Int} {L b m a d : Int} {k : Nat} (e : crS f L k = (b, m)) (hf : f k = a) (hd : absI (a - L) = d) (h : ¬ (m < 0 ∨ d < m)) : crS f L (k + 1) = (b, m) := by rw [crS, e, hf, hd, if_neg h]
def lenC (h l r lo ro rh rd rf : Int) (right : Bool) (c : Int) : Int := spLen h l r lo ro rh rd rf c right
def crF (h l r lo ro rh rd rf cr : Int) (right : Bool) (L : Int) : Int × Int :=
  if wheelB h l r lo ro rh rd rf cr then (if inB L 0 5000 then ((crS (lenC h l r lo ro rh rd rf right) L (h / 4).toNat).1, 0) else (0, 2)) else (0, 1)
theorem crF_n {h l r lo ro rh rd rf cr L : Int} {right : Bool} (k : wheelB h l r lo ro rh rd rf cr = false) : crF h l r lo ro rh rd rf cr right L = (0, 1) := by rw [crF, k]; rfl
theorem crF_r {h l r lo ro rh rd rf cr L : Int} {right : Bool} (k : wheelB h l r lo ro rh rd rf cr = true) (k2 : inB L 0 5000 = false) : crF h l r lo ro rh rd rf cr right L = (0, 2) := by rw [crF, k, k2]; rfl
theorem crF_y {h l r lo ro rh rd rf cr L b m : Int} {right : Bool} {n : Nat} (k : wheelB h l r lo ro rh rd rf cr = true) (k2 : inB L 0 5000 = true) (hn : (n : Int) = h / 4) (e : crS (lenC h l r lo ro rh rd rf right) L n = (b, m)) : crF h l r lo ro rh rd rf cr right L = (b, 0) := by
  rw [crF, if_pos k, if_pos k2, ← hn, Int.toNat_natCast, e]
theorem wheelB_cr {h l r lo ro rh rd rf cr c : Int} (k : wheelB h l r lo ro rh rd rf cr = true) (h0 : 0 ≤ c) (h1 : c ≤ h / 4 - 1) : wheelB h l r lo ro rh rd rf c = true := by
  simp only [wheelB, Bool.and_eq_true] at k ⊢
  obtain ⟨k1, k2, k3, k4⟩ := k
  exact ⟨k1, k2, k3, inB_mk ⟨h0, h1⟩⟩

set_option maxHeartbeats 400000 in
theorem impl_abs (n : Int) (h : -1000000000000000 ≤ n ∧ n ≤ 1000000000000000) (w : World) : Calls Try.prog 54 #[.int .i64 n] w fun e w' => e = .returned (.int .i64 (absI n)) ∧ w = w' := by
  rcases Int.lt_or_le n 0 with h1 | h1
  all_goals
    go_enter Try.func54, Try.ntmps54
    go_wp2
    go_ret
  · exact ⟨reti (by rw [absI, if_pos h1]), rfl⟩
  · exact ⟨reti (by rw [absI, if_neg (by omega)]), rfl⟩
set_option maxHeartbeats 400000 in
theorem spec_Abs (n : Int) (h : -1000000000000000 ≤ n ∧ n ≤ 1000000000000000) (w : World) : Calls Try.prog 52 #[.int .i64 n] w fun e w' => e = .returned (.int .i64 (absI n)) ∧ w = w' := by
  rcases Int.lt_or_le n 0 with h1 | h1
  all_goals
    go_enter Try.func52, Try.ntmps52
    go_wp2
    go_ret
  · exact ⟨reti (by rw [absI, if_pos h1]), rfl⟩
  · exact ⟨reti (by rw [absI, if_neg (by omega)]), rfl⟩
set_option maxHeartbeats 4000000 in
theorem impl_CrossesFor (h l r lo ro rh rd rf cr : Int) (right : Bool) (L : Int) (w : World) : Calls Try.prog 25 #[.agg #[.int .i64 h, .int .i64 l, .int .i64 r, .int .i64 lo, .int .i64 ro, .int .i64 rh, .int .i64 rd, .int .i64 rf, .int .i64 cr], .bool right, .int .i64 L] w fun e w' => e = .returned (.tuple #[.int .i64 (crF h l r lo ro rh rd rf cr right L).1, .int .i64 (crF h l r lo ro rh rd rf cr right L).2]) ∧ Below w.heap.size w w' := by
  rcases h1 : wheelB h l r lo ro rh rd rf cr with _ | _
  · rw [crF_n h1]
    go_enter Try.func25, Try.ntmps25
    go_wp2_with fail
    refine (impl_IsWheel _ _ _ _ _ _ _ _ _ _).mono ?_
    rintro e w1 ⟨rfl, hb1⟩
    obtain ⟨c1, f1, zz, bb⟩ := kept1 hb1
    clear hb1
    go_wp2_with fail
    go_ret2
    exact ⟨rfl, by (repeat (first | with_reducible exact Below.refl _ _ | with_reducible assumption | ((with_reducible refine Bw.set ?_ ?_); rotate_left; focus omega) | ((with_reducible refine Bw.al ?_ ?_); rotate_left; focus (first | omega | (simp; done) | (simp; omega))) | with_reducible refine Below.drew ?_ | with_reducible refine Bw.dr ?_ _))⟩
  have HK := Lib.hid h1
  have h0 := holes_bd (hubB_t (wheelB_t h1).1).1
  have HH := Lib.hid (hubB_t (wheelB_t h1).1).1
  clear h1
  rcases h2 : inB L 0 5000 with _ | _
  · rw [crF_r HK.out h2]
    have H2 := Lib.hid h2
    clear h2
    go_enter Try.func25, Try.ntmps25
    go_wp2_with fail
    refine (impl_IsWheel _ _ _ _ _ _ _ _ _ _).mono ?_
    rintro e w1 ⟨rfl, hb1⟩
    obtain ⟨c1, f1, zz, bb⟩ := kept1 hb1
    clear hb1
    rw [HK.out]
    go_wp2_with fail
    refine (impl_within _ _ _ _).mono ?_
    rintro e w2 ⟨rfl, rfl⟩
    rw [H2.out]
    go_wp2_with fail
    go_ret2
    exact ⟨rfl, by (repeat (first | with_reducible exact Below.refl _ _ | with_reducible assumption | ((with_reducible refine Bw.set ?_ ?_); rotate_left; focus omega) | ((with_reducible refine Bw.al ?_ ?_); rotate_left; focus (first | omega | (simp; done) | (simp; omega))) | with_reducible refine Below.drew ?_ | with_reducible refine Bw.dr ?_ _))⟩
  have L0 := inB_t h2
  have H2 := Lib.hid h2
  clear h2
  have HF := Lib.hid (fun (n : Nat) (b m : Int) => crF_y (right := right) (b := b) (m := m) (n := n) HK.out H2.out)
  generalize crF h l r lo ro rh rd rf cr right L = out at *
  go_enter Try.func25, Try.ntmps25
  go_wp2_with fail
  refine (impl_IsWheel _ _ _ _ _ _ _ _ _ _).mono ?_
  rintro e w1 ⟨rfl, hb1⟩
  obtain ⟨c1, f1, zz, bb⟩ := kept1 hb1
  clear hb1
  rw [HK.out]
  go_wp2_with fail
  refine (impl_within _ _ _ _).mono ?_
  rintro e w2 ⟨rfl, rfl⟩
  rw [H2.out]
  go_wp2_with fail
  go_loopw [10, 8, 9, 11] (fun s10 s8 s9 _ wr => ∃ (k : Nat) (b m : Int), (k : Int) ≤ h / 4 ∧ s10 = .int .i64 k ∧ s8 = .int .i64 b ∧ s9 = .int .i64 m ∧ crS (lenC h l r lo ro rh rd rf right) L k = (b, m) ∧ (∃ c : Int, ∀ i, wr.cell? ⟨w.heap.size, i, none⟩ = #[Value.int .i64 h, Value.int .i64 l, Value.int .i64 r, Value.int .i64 lo, Value.int .i64 ro, Value.int .i64 rh, Value.int .i64 rd, Value.int .i64 rf, Value.int .i64 c][i]?) ∧ (∀ i, wr.frozen? ⟨w.heap.size, i, none⟩ = false) ∧ w.heap.size + 1 ≤ wr.heap.size ∧ Below w.heap.size w wr) (fun s10 _ _ _ _ => (h / 4).toNat - (intOf s10).toNat)
  case atStart => exact ⟨0, 0, -1, by omega, rfl, rfl, rfl, rfl, ⟨_, c1⟩, f1, zz, bb⟩
  case round =>
    clear c1 f1 zz bb
    obtain ⟨k, b, m, hk, rfl, rfl, rfl, he, ⟨c, c1⟩, f1, zz, bb⟩ := hrel
    have HE := Lib.hid he
    clear he
    by_cases hlt : (k : Int) ≤ h / 4 - 1
    · go_wp2_with fail
      refine (impl_mostCrosses _ HH.out _).mono ?_
      rintro e w3 ⟨rfl, rfl⟩
      go_upto_region 10 with fail
      have d1 := cell_put c1 8 (.int .i64 (k : Int)) (by simp)
      have g1 := frz_put (g' := w.heap.size) f1 8 (.int .i64 (k : Int))
      have b1 : Below w.heap.size w (wr.setCell ⟨w.heap.size, 8, none⟩ (.int .i64 (k : Int))) := by (repeat (first | with_reducible exact Below.refl _ _ | with_reducible assumption | ((with_reducible refine Bw.set ?_ ?_); rotate_left; focus omega) | ((with_reducible refine Bw.al ?_ ?_); rotate_left; focus (first | omega | (simp; done) | (simp; omega))) | with_reducible refine Below.drew ?_ | with_reducible refine Bw.dr ?_ _))
      have z1 : w.heap.size + 1 ≤ (wr.setCell ⟨w.heap.size, 8, none⟩ (.int .i64 (k : Int))).heap.size := by simpa using zz
      simp only [List.setIfInBounds_toArray, List.set_cons_succ, List.set_cons_zero] at d1
      clear c1 f1 bb zz
      generalize wr.setCell ⟨w.heap.size, 8, none⟩ (.int .i64 (k : Int)) = X at *
      have HW := Lib.hid (wheelB_cr HK.out (c := (k : Int)) (by omega) hlt)
      obtain ⟨a, ha⟩ : ∃ a, spLen h l r lo ro rh rd rf (k : Int) right = a := ⟨_, rfl⟩
      have A0 := (whBd HW.out right).l0
      rw [ha] at A0
      have HA := Lib.hid ha
      clear ha
      go_wp2_with fail
      refine (impl_len_b HA.out HW.out _).mono ?_
      rintro e w4 ⟨rfl, hb4⟩
      replace b1 := b1.trans (hb4.mono (by omega))
      replace d1 := cell_kept hb4 (by omega) d1
      replace g1 := frz_kept hb4 (by omega) g1
      replace z1 : w.heap.size + 1 ≤ w4.heap.size := Nat.le_trans z1 hb4.size
      clear hb4
      go_wp2_with fail
      refine (impl_abs _ (by omega) _).mono ?_
      rintro e w5 ⟨rfl, rfl⟩
      obtain ⟨d, hd⟩ : ∃ d, absI (a - L) = d := ⟨_, rfl⟩
      have HD := Lib.hid hd
      rw [hd]
      clear hd
      rcases Int.lt_or_le m 0 with q1 | q1
      rotate_left
      rcases Int.lt_or_le d m with q2 | q2
      all_goals
        go_wp2_with fail
        go_roundw
      case rel => exact ⟨k + 1, _, _, by omega, by go_num, rfl, rfl, crS_y HE.out HA.out HD.out (.inr q2), ⟨_, d1⟩, g1, by omega, b1⟩
      case measure => simp [intOf]; omega
      case rel => exact ⟨k + 1, _, _, by omega, by go_num, rfl, rfl, crS_n HE.out HA.out HD.out (by omega), ⟨_, d1⟩, g1, by omega, b1⟩
      case measure => simp [intOf]; omega
      case rel => exact ⟨k + 1, _, _, by omega, by go_num, rfl, rfl, crS_y HE.out HA.out HD.out (.inl q1), ⟨_, d1⟩, g1, by omega, b1⟩
      case measure => simp [intOf]; omega
    · have hk2 : (k : Int) = h / 4 := by omega
      have HO := Lib.hid (HF.out k b m hk2 HE.out)
      clear hk2
      go_wp2_with fail
      refine (impl_mostCrosses _ HH.out _).mono ?_
      rintro e w3 ⟨rfl, rfl⟩
      go_wp2_with fail
      go_ret2
      exact ⟨by rw [HO.out]; rfl, bb⟩
set_option maxHeartbeats 4000000 in
theorem spec_CrossesFor (h l r lo ro rh rd rf cr : Int) (right : Bool) (L : Int) (w : World) : Calls Try.prog 24 #[.agg #[.int .i64 h, .int .i64 l, .int .i64 r, .int .i64 lo, .int .i64 ro, .int .i64 rh, .int .i64 rd, .int .i64 rf, .int .i64 cr], .bool right, .int .i64 L] w fun e w' => e = .returned (.tuple #[.int .i64 (crF h l r lo ro rh rd rf cr right L).1, .int .i64 (crF h l r lo ro rh rd rf cr right L).2]) ∧ Below w.heap.size w w' := by
  rcases h1 : wheelB h l r lo ro rh rd rf cr with _ | _
  · rw [crF_n h1]
    go_enter Try.func24, Try.ntmps24
    go_wp2_with fail
    refine (spec_IsWheel _ _ _ _ _ _ _ _ _ _).mono ?_
    rintro e w1 ⟨rfl, hb1⟩
    obtain ⟨c1, f1, zz, bb⟩ := kept1 hb1
    clear hb1
    go_wp2_with fail
    go_ret2
    exact ⟨rfl, by (repeat (first | with_reducible exact Below.refl _ _ | with_reducible assumption | ((with_reducible refine Bw.set ?_ ?_); rotate_left; focus omega) | ((with_reducible refine Bw.al ?_ ?_); rotate_left; focus (first | omega | (simp; done) | (simp; omega))) | with_reducible refine Below.drew ?_ | with_reducible refine Bw.dr ?_ _))⟩
  have HK := Lib.hid h1
  have h0 := holes_bd (hubB_t (wheelB_t h1).1).1
  have HH := Lib.hid (hubB_t (wheelB_t h1).1).1
  clear h1
  rcases h2 : inB L 0 5000 with _ | _
  · rw [crF_r HK.out h2]
    have H2 := Lib.hid h2
    clear h2
    go_enter Try.func24, Try.ntmps24
    go_wp2_with fail
    refine (spec_IsWheel _ _ _ _ _ _ _ _ _ _).mono ?_
    rintro e w1 ⟨rfl, hb1⟩
    obtain ⟨c1, f1, zz, bb⟩ := kept1 hb1
    clear hb1
    rw [HK.out]
    go_wp2_with fail
    refine (spec_In _ _ _ _).mono ?_
    rintro e w2 ⟨rfl, rfl⟩
    rw [H2.out]
    go_wp2_with fail
    go_ret2
    exact ⟨rfl, by (repeat (first | with_reducible exact Below.refl _ _ | with_reducible assumption | ((with_reducible refine Bw.set ?_ ?_); rotate_left; focus omega) | ((with_reducible refine Bw.al ?_ ?_); rotate_left; focus (first | omega | (simp; done) | (simp; omega))) | with_reducible refine Below.drew ?_ | with_reducible refine Bw.dr ?_ _))⟩
  have L0 := inB_t h2
  have H2 := Lib.hid h2
  clear h2
  have HF := Lib.hid (fun (n : Nat) (b m : Int) => crF_y (right := right) (b := b) (m := m) (n := n) HK.out H2.out)
  generalize crF h l r lo ro rh rd rf cr right L = out at *
  go_enter Try.func24, Try.ntmps24
  go_wp2_with fail
  refine (spec_IsWheel _ _ _ _ _ _ _ _ _ _).mono ?_
  rintro e w1 ⟨rfl, hb1⟩
  obtain ⟨c1, f1, zz, bb⟩ := kept1 hb1
  clear hb1
  rw [HK.out]
  go_wp2_with fail
  refine (spec_In _ _ _ _).mono ?_
  rintro e w2 ⟨rfl, rfl⟩
  rw [H2.out]
  go_wp2_with fail
  go_loopw [10, 8, 9, 11, 12] (fun s10 s8 s9 _ _ wr => ∃ (k : Nat) (b m : Int), (k : Int) ≤ h / 4 ∧ s10 = .int .i64 k ∧ s8 = .int .i64 b ∧ s9 = .int .i64 m ∧ crS (lenC h l r lo ro rh rd rf right) L k = (b, m) ∧ (∀ i, wr.cell? ⟨w.heap.size, i, none⟩ = #[Value.int .i64 h, Value.int .i64 l, Value.int .i64 r, Value.int .i64 lo, Value.int .i64 ro, Value.int .i64 rh, Value.int .i64 rd, Value.int .i64 rf, Value.int .i64 cr][i]?) ∧ w.heap.size + 1 ≤ wr.heap.size ∧ Below w.heap.size w wr) (fun s10 _ _ _ _ _ => (h / 4).toNat - (intOf s10).toNat)
  case atStart => exact ⟨0, 0, -1, by omega, rfl, rfl, rfl, rfl, c1, zz, bb⟩
  case round =>
    clear c1 f1 zz bb
    obtain ⟨k, b, m, hk, rfl, rfl, rfl, he, c1, zz, bb⟩ := hrel
    have HE := Lib.hid he
    clear he
    by_cases hlt : (k : Int) ≤ h / 4 - 1
    · go_upto_region 10 with fail
      have c2 := cell_new wr #[Value.int .i64 h, Value.int .i64 l, Value.int .i64 r, Value.int .i64 lo, Value.int .i64 ro, Value.int .i64 rh, Value.int .i64 rd, Value.int .i64 rf, Value.int .i64 cr] 39
      have f2 := frz_new wr #[Value.int .i64 h, Value.int .i64 l, Value.int .i64 r, Value.int .i64 lo, Value.int .i64 ro, Value.int .i64 rh, Value.int .i64 rd, Value.int .i64 rf, Value.int .i64 cr] 39
      replace c1 := cell_alloc c1 (by omega) (.cells #[Value.int .i64 h, Value.int .i64 l, Value.int .i64 r, Value.int .i64 lo, Value.int .i64 ro, Value.int .i64 rh, Value.int .i64 rd, Value.int .i64 rf, Value.int .i64 cr] 39)
      have zX : wr.heap.size + 1 = (wr.alloc (.cells #[Value.int .i64 h, Value.int .i64 l, Value.int .i64 r, Value.int .i64 lo, Value.int .i64 ro, Value.int .i64 rh, Value.int .i64 rd, Value.int .i64 rf, Value.int .i64 cr] 39)).heap.size := by simp
      replace bb : Below w.heap.size w (wr.alloc (.cells #[Value.int .i64 h, Value.int .i64 l, Value.int .i64 r, Value.int .i64 lo, Value.int .i64 ro, Value.int .i64 rh, Value.int .i64 rd, Value.int .i64 rf, Value.int .i64 cr] 39)) := by (repeat (first | with_reducible exact Below.refl _ _ | with_reducible assumption | ((with_reducible refine Bw.set ?_ ?_); rotate_left; focus omega) | ((with_reducible refine Bw.al ?_ ?_); rotate_left; focus (first | omega | (simp; done) | (simp; omega))) | with_reducible refine Below.drew ?_ | with_reducible refine Bw.dr ?_ _))
      generalize hg : wr.heap.size = g at *
      clear hg
      generalize wr.alloc (.cells #[Value.int .i64 h, Value.int .i64 l, Value.int .i64 r, Value.int .i64 lo, Value.int .i64 ro, Value.int .i64 rh, Value.int .i64 rd, Value.int .i64 rf, Value.int .i64 cr] 39) = X at *
      have z0 : g + 1 ≤ X.heap.size := by omega
      clear zX
      go_upto_region 11 with fail
      have d1 := cell_put c2 8 (.int .i64 (k : Int)) (by simp)
      replace c1 := cell_far (g' := g) c1 (by omega) 8 (.int .i64 (k : Int))
      have b1 : Below w.heap.size w (X.setCell ⟨g, 8, none⟩ (.int .i64 (k : Int))) := by (repeat (first | with_reducible exact Below.refl _ _ | with_reducible assumption | ((with_reducible refine Bw.set ?_ ?_); rotate_left; focus omega) | ((with_reducible refine Bw.al ?_ ?_); rotate_left; focus (first | omega | (simp; done) | (simp; omega))) | with_reducible refine Below.drew ?_ | with_reducible refine Bw.dr ?_ _))
      have z1 : g + 1 ≤ (X.setCell ⟨g, 8, none⟩ (.int .i64 (k : Int))).heap.size := by simpa using z0
      simp only [List.setIfInBounds_toArray, List.set_cons_succ, List.set_cons_zero] at d1
      clear c2 f2 bb z0
      generalize X.setCell ⟨g, 8, none⟩ (.int .i64 (k : Int)) = X at *
      have HW := Lib.hid (wheelB_cr HK.out (c := (k : Int)) (by omega) hlt)
      obtain ⟨a, ha⟩ : ∃ a, spLen h l r lo ro rh rd rf (k : Int) right = a := ⟨_, rfl⟩
      have A0 := (whBd HW.out right).l0
      rw [ha] at A0
      have HA := Lib.hid ha
      clear ha
      go_wp2_with fail
      refine (spec_len_b HA.out HW.out _).mono ?_
      rintro e w4 ⟨rfl, hb4⟩
      replace b1 := b1.trans (hb4.mono (by omega))
      replace d1 := cell_kept hb4 (by omega) d1
      replace c1 := cell_kept hb4 (by omega) c1
      replace z1 : g + 1 ≤ w4.heap.size := Nat.le_trans z1 hb4.size
      clear hb4
      go_wp2_with fail
      refine (spec_Abs _ (by omega) _).mono ?_
      rintro e w5 ⟨rfl, rfl⟩
      obtain ⟨d, hd⟩ : ∃ d, absI (a - L) = d := ⟨_, rfl⟩
      have HD := Lib.hid hd
      rw [hd]
      clear hd
      rcases Int.lt_or_le m 0 with q1 | q1
      rotate_left
      rcases Int.lt_or_le d m with q2 | q2
      all_goals
        go_wp2_with fail
        go_roundw
      case rel => exact ⟨k + 1, _, _, by omega, by go_num, rfl, rfl, crS_y HE.out HA.out HD.out (.inr q2), c1, by omega, b1⟩
      case measure => simp [intOf]; omega
      case rel => exact ⟨k + 1, _, _, by omega, by go_num, rfl, rfl, crS_n HE.out HA.out HD.out (by omega), c1, by omega, b1⟩
      case measure => simp [intOf]; omega
      case rel => exact ⟨k + 1, _, _, by omega, by go_num, rfl, rfl, crS_y HE.out HA.out HD.out (.inl q1), c1, by omega, b1⟩
      case measure => simp [intOf]; omega
    · have hk2 : (k : Int) = h / 4 := by omega
      have HO := Lib.hid (HF.out k b m hk2 HE.out)
      clear hk2
      go_wp2_with fail
      go_ret2
      exact ⟨by rw [HO.out]; rfl, bb⟩

end Go.Proofs.Ytnoiijcpnjgnbaa
