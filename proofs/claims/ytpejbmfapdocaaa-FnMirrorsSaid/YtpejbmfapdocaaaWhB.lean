/- Contracts on wheels: whether they are one, their most crosses. Conditions: those that each theorem names. -/
import Derived.Test.YtpejbmfapdocaaaWhA
namespace Go.Proofs.Ytpejbmfapdocaaa
open Go.RowKit

def wheelB (h l r lo ro rh rd rf cr : Int) : Bool := hubB h l r lo ro && (rimB rh rd rf && (decide (h = rh) && inB cr 0 (h / 4 - 1)))
theorem wheelB_t {h l r lo ro rh rd rf cr : Int} (k : wheelB h l r lo ro rh rd rf cr = true) : hubB h l r lo ro = true ∧ rimB rh rd rf = true ∧ h = rh ∧ (0 ≤ cr ∧ cr ≤ h / 4 - 1) := by
  simp only [wheelB, Bool.and_eq_true, decide_eq_true_eq] at k
  exact ⟨k.1, k.2.1, k.2.2.1, inB_t k.2.2.2⟩
theorem holes_bd {n : Int} (h : holesB n = true) : 12 ≤ n ∧ n ≤ 48 := by
  have := holesB_t h
  omega
theorem nine_held {X Y : World} {g : Nat} {v0 v1 v2 v3 v4 v5 v6 v7 v8 : Value} (c : ∀ i, X.cell? ⟨g, i, none⟩ = #[v0, v1, v2, v3, v4, v5, v6, v7, v8][i]?) (h : Below X.heap.size X Y) :
    Y.cell? ⟨g, 0, none⟩ = some v0 ∧ Y.cell? ⟨g, 1, none⟩ = some v1 ∧ Y.cell? ⟨g, 2, none⟩ = some v2 ∧ Y.cell? ⟨g, 3, none⟩ = some v3 ∧ Y.cell? ⟨g, 4, none⟩ = some v4 ∧ Y.cell? ⟨g, 5, none⟩ = some v5 ∧ Y.cell? ⟨g, 6, none⟩ = some v6 ∧ Y.cell? ⟨g, 7, none⟩ = some v7 ∧ Y.cell? ⟨g, 8, none⟩ = some v8 ∧ Below X.heap.size X Y := by
  have k := cell_kept h (lt_cell c (by simp)) c
  exact ⟨by rw [k]; rfl, by rw [k]; rfl, by rw [k]; rfl, by rw [k]; rfl, by rw [k]; rfl, by rw [k]; rfl, by rw [k]; rfl, by rw [k]; rfl, by rw [k]; rfl, h⟩

set_option maxHeartbeats 400000 in
theorem impl_mostCrosses (n : Int) (hn : holesB n = true) (w : World) : Calls Try.prog 134 #[.int .i64 n] w fun e w' => e = .returned (.int .i64 (n / 4 - 1)) ∧ w = w' := by
  have hb := holes_bd hn
  clear hn
  go_enter Try.func134, Try.ntmps134
  go_wp2
  go_ret
  exact ⟨rfl, rfl⟩
theorem impl_IsHub_at {h l r lo ro : Int} {b : Bool} (k : hubB h l r lo ro = b) (w : World) : Calls Try.prog 29 #[.agg #[.int .i64 h, .int .i64 l, .int .i64 r, .int .i64 lo, .int .i64 ro]] w fun e w' => e = .returned (.bool b) ∧ Below w.heap.size w w' := by
  subst k; exact impl_IsHub h l r lo ro w
theorem impl_IsRim_at {h d o : Int} {b : Bool} (k : rimB h d o = b) (w : World) : Calls Try.prog 71 #[.agg #[.int .i64 h, .int .i64 d, .int .i64 o]] w fun e w' => e = .returned (.bool b) ∧ Below w.heap.size w w' := by
  subst k; exact impl_IsRim h d o w
theorem impl_within_at {n lo hi : Int} {b : Bool} (k : inB n lo hi = b) (w : World) : Calls Try.prog 119 #[.int .i64 n, .int .i64 lo, .int .i64 hi] w fun e w' => e = .returned (.bool b) ∧ w = w' := by
  subst k; exact impl_within n lo hi w
set_option maxHeartbeats 4000000 in
theorem spec_IsWheel (h l r lo ro rh rd rf cr : Int) (w : World) : Calls Try.prog 132 #[.agg #[.int .i64 h, .int .i64 l, .int .i64 r, .int .i64 lo, .int .i64 ro, .int .i64 rh, .int .i64 rd, .int .i64 rf, .int .i64 cr]] w fun e w' => e = .returned (.bool (wheelB h l r lo ro rh rd rf cr)) ∧ Below w.heap.size w w' := by
  rcases h1 : hubB h l r lo ro with _ | _
  · go_enter Try.func132, Try.ntmps132
    go_wp2_with fail
    refine (spec_IsHub _ _ _ _ _ _).mono ?_
    rintro e w1 ⟨rfl, hb1⟩
    obtain ⟨c1, f1, zz, bb⟩ := kept1 hb1
    clear hb1
    go_wp2_with fail
    go_ret
    exact ⟨by simp [wheelB, h1], by (repeat (first | with_reducible exact Below.refl _ _ | with_reducible assumption | ((with_reducible refine Bw.set ?_ ?_); rotate_left; focus omega) | ((with_reducible refine Bw.al ?_ ?_); rotate_left; focus (first | omega | (simp; done) | (simp; omega))) | with_reducible refine Below.drew ?_ | with_reducible refine Bw.dr ?_ _))⟩
  have hb := holes_bd (hubB_t h1).1
  rcases h2 : rimB rh rd rf with _ | _
  · go_enter Try.func132, Try.ntmps132
    go_wp2_with fail
    refine (spec_IsHub _ _ _ _ _ _).mono ?_
    rintro e w1 ⟨rfl, hb1⟩
    obtain ⟨c1, f1, zz, bb⟩ := kept1 hb1
    clear hb1
    go_wp2_with fail
    refine (spec_IsRim _ _ _ _).mono ?_
    rintro e w2 ⟨rfl, hb2⟩
    replace bb : Below w.heap.size w w2 := Below.trans (by (repeat (first | with_reducible exact Below.refl _ _ | with_reducible assumption | ((with_reducible refine Bw.set ?_ ?_); rotate_left; focus omega) | ((with_reducible refine Bw.al ?_ ?_); rotate_left; focus (first | omega | (simp; done) | (simp; omega))) | with_reducible refine Below.drew ?_ | with_reducible refine Bw.dr ?_ _))) (hb2.mono (by first | omega | (simp; done) | (simp; omega)))
    first | replace c1 := cell_kept hb2 (by first | omega | (simp; done) | (simp; omega)) c1 | replace c1 := cell_kept hb2 (by first | omega | (simp; done) | (simp; omega)) (cell_alloc c1 (by first | omega | (simp; done) | (simp; omega)) _)
    replace zc1 := lt_cell c1 (by simp)
    replace zz : w.heap.size + 1 ≤ w2.heap.size := by have := hb2.size; first | omega | (simp at this; omega)
    clear hb2
    go_wp2_with fail
    go_ret
    exact ⟨by simp [wheelB, h1, h2], by (repeat (first | with_reducible exact Below.refl _ _ | with_reducible assumption | ((with_reducible refine Bw.set ?_ ?_); rotate_left; focus omega) | ((with_reducible refine Bw.al ?_ ?_); rotate_left; focus (first | omega | (simp; done) | (simp; omega))) | with_reducible refine Below.drew ?_ | with_reducible refine Bw.dr ?_ _))⟩
  by_cases h3 : h = rh
  rotate_left
  · have e3 : (h == rh) = false := by simp [h3]
    have h3' : decide (h = rh) = false := by simp [h3]
    clear h3
    go_enter Try.func132, Try.ntmps132
    go_wp2_with fail
    refine (spec_IsHub _ _ _ _ _ _).mono ?_
    rintro e w1 ⟨rfl, hb1⟩
    obtain ⟨c1, f1, zz, bb⟩ := kept1 hb1
    clear hb1
    go_wp2_with fail
    refine (spec_IsRim _ _ _ _).mono ?_
    rintro e w2 ⟨rfl, hb2⟩
    replace bb : Below w.heap.size w w2 := Below.trans (by (repeat (first | with_reducible exact Below.refl _ _ | with_reducible assumption | ((with_reducible refine Bw.set ?_ ?_); rotate_left; focus omega) | ((with_reducible refine Bw.al ?_ ?_); rotate_left; focus (first | omega | (simp; done) | (simp; omega))) | with_reducible refine Below.drew ?_ | with_reducible refine Bw.dr ?_ _))) (hb2.mono (by first | omega | (simp; done) | (simp; omega)))
    first | replace c1 := cell_kept hb2 (by first | omega | (simp; done) | (simp; omega)) c1 | replace c1 := cell_kept hb2 (by first | omega | (simp; done) | (simp; omega)) (cell_alloc c1 (by first | omega | (simp; done) | (simp; omega)) _)
    replace zc1 := lt_cell c1 (by simp)
    replace zz : w.heap.size + 1 ≤ w2.heap.size := by have := hb2.size; first | omega | (simp at this; omega)
    clear hb2
    go_wp2_with fail
    go_ret
    exact ⟨by simp [wheelB, h1, h2, h3'], by (repeat (first | with_reducible exact Below.refl _ _ | with_reducible assumption | ((with_reducible refine Bw.set ?_ ?_); rotate_left; focus omega) | ((with_reducible refine Bw.al ?_ ?_); rotate_left; focus (first | omega | (simp; done) | (simp; omega))) | with_reducible refine Below.drew ?_ | with_reducible refine Bw.dr ?_ _))⟩
  subst h3
  rcases h4 : inB cr 0 (h / 4 - 1) with _ | _
  · go_enter Try.func132, Try.ntmps132
    go_wp2_with fail
    refine (spec_IsHub _ _ _ _ _ _).mono ?_
    rintro e w1 ⟨rfl, hb1⟩
    obtain ⟨c1, f1, zz, bb⟩ := kept1 hb1
    clear hb1
    go_wp2_with fail
    refine (spec_IsRim _ _ _ _).mono ?_
    rintro e w2 ⟨rfl, hb2⟩
    replace bb : Below w.heap.size w w2 := Below.trans (by (repeat (first | with_reducible exact Below.refl _ _ | with_reducible assumption | ((with_reducible refine Bw.set ?_ ?_); rotate_left; focus omega) | ((with_reducible refine Bw.al ?_ ?_); rotate_left; focus (first | omega | (simp; done) | (simp; omega))) | with_reducible refine Below.drew ?_ | with_reducible refine Bw.dr ?_ _))) (hb2.mono (by first | omega | (simp; done) | (simp; omega)))
    first | replace c1 := cell_kept hb2 (by first | omega | (simp; done) | (simp; omega)) c1 | replace c1 := cell_kept hb2 (by first | omega | (simp; done) | (simp; omega)) (cell_alloc c1 (by first | omega | (simp; done) | (simp; omega)) _)
    replace zc1 := lt_cell c1 (by simp)
    replace zz : w.heap.size + 1 ≤ w2.heap.size := by have := hb2.size; first | omega | (simp at this; omega)
    clear hb2
    go_wp2_with fail
    refine (spec_In _ _ _ _).mono ?_
    rintro e w3 ⟨rfl, rfl⟩
    go_wp2_with fail
    go_ret
    exact ⟨by simp [wheelB, h1, h2, h4], by (repeat (first | with_reducible exact Below.refl _ _ | with_reducible assumption | ((with_reducible refine Bw.set ?_ ?_); rotate_left; focus omega) | ((with_reducible refine Bw.al ?_ ?_); rotate_left; focus (first | omega | (simp; done) | (simp; omega))) | with_reducible refine Below.drew ?_ | with_reducible refine Bw.dr ?_ _))⟩
  · go_enter Try.func132, Try.ntmps132
    go_wp2_with fail
    refine (spec_IsHub _ _ _ _ _ _).mono ?_
    rintro e w1 ⟨rfl, hb1⟩
    obtain ⟨c1, f1, zz, bb⟩ := kept1 hb1
    clear hb1
    go_wp2_with fail
    refine (spec_IsRim _ _ _ _).mono ?_
    rintro e w2 ⟨rfl, hb2⟩
    replace bb : Below w.heap.size w w2 := Below.trans (by (repeat (first | with_reducible exact Below.refl _ _ | with_reducible assumption | ((with_reducible refine Bw.set ?_ ?_); rotate_left; focus omega) | ((with_reducible refine Bw.al ?_ ?_); rotate_left; focus (first | omega | (simp; done) | (simp; omega))) | with_reducible refine Below.drew ?_ | with_reducible refine Bw.dr ?_ _))) (hb2.mono (by first | omega | (simp; done) | (simp; omega)))
    first | replace c1 := cell_kept hb2 (by first | omega | (simp; done) | (simp; omega)) c1 | replace c1 := cell_kept hb2 (by first | omega | (simp; done) | (simp; omega)) (cell_alloc c1 (by first | omega | (simp; done) | (simp; omega)) _)
    replace zc1 := lt_cell c1 (by simp)
    replace zz : w.heap.size + 1 ≤ w2.heap.size := by have := hb2.size; first | omega | (simp at this; omega)
    clear hb2
    go_wp2_with fail
    refine (spec_In _ _ _ _).mono ?_
    rintro e w3 ⟨rfl, rfl⟩
    go_wp2_with fail
    go_ret
    exact ⟨by simp [wheelB, h1, h2, h4], by (repeat (first | with_reducible exact Below.refl _ _ | with_reducible assumption | ((with_reducible refine Bw.set ?_ ?_); rotate_left; focus omega) | ((with_reducible refine Bw.al ?_ ?_); rotate_left; focus (first | omega | (simp; done) | (simp; omega))) | with_reducible refine Below.drew ?_ | with_reducible refine Bw.dr ?_ _))⟩

end Go.Proofs.Ytpejbmfapdocaaa
