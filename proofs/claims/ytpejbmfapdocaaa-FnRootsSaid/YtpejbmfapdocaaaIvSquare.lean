/- Squares of an interval. Conditions: those that each theorem names. -/
import Derived.Test.YtpejbmfapdocaaaIvA
namespace Go.Proofs.Ytpejbmfapdocaaa
open Go.RowKit

def squareIv (a b : Int) : Int × Int × Int := if isIv a b then asIv (if a ≤ 0 ∧ 0 ≤ b then 0 else min (a * a) (b * b)) (max (a * a) (b * b)) else (0, 0, 1)
theorem squareIv_of {a b x y : Int} (h1 : isIv a b = true) (hx : ((a ≤ 0 ∧ 0 ≤ b) ∧ x = 0) ∨ (¬ (a ≤ 0 ∧ 0 ≤ b) ∧ x = min (a * a) (b * b))) (hy : y = max (a * a) (b * b)) : squareIv a b = asIv x y := by
  rw [squareIv, if_pos h1, ← hy]
  rcases hx with ⟨h, rfl⟩ | ⟨h, rfl⟩
  · rw [if_pos h]
  · rw [if_neg h]

set_option maxHeartbeats 2000000 in
theorem impl_SquareInterval (a b : Int) (w : World) :
    Calls Try.prog 75 #[.agg #[.int .i64 a, .int .i64 b]] w fun e w' => e = .returned (.tuple #[.agg #[.int .i64 (squareIv a b).1, .int .i64 (squareIv a b).2.1], .int .i64 (squareIv a b).2.2]) ∧ Below w.heap.size w w' := by
  rcases h1 : isIv a b with _ | _
  · go_enter Try.func75, Try.ntmps75
    go_wp2_with fail
    refine (impl_IsInterval _ _ _).mono ?_
    rintro e w1 ⟨rfl, hb1⟩
    obtain ⟨c1, f1, c2, f2, zz, bb⟩ := kept2 hb1
    clear hb1
    go_wp2_with fail
    refine bodyPost_ret (v := .tuple #[.agg #[.int .i64 0, .int .i64 0], .int .i64 1]) (by simp (maxDischargeDepth := 8) [results, Try.results75, go_sem, c2]) rfl ⟨?_, ?_⟩
    · simp [squareIv, h1]
    · (repeat (first | with_reducible exact Below.refl _ _ | with_reducible assumption | ((with_reducible refine Bw.set ?_ ?_); rotate_left; focus omega) | ((with_reducible refine Bw.al ?_ ?_); rotate_left; focus (first | omega | (simp; done) | (simp; omega))) | with_reducible refine Below.drew ?_ | with_reducible refine Bw.dr ?_ _))
  have e1 := isIv_t h1
  have q1 := mul_bd (x := a) (n := a) (A := 1000000000) (B := 1000000000) ⟨by omega, by omega⟩ ⟨by omega, by omega⟩
  have q2 := mul_bd (x := b) (n := b) (A := 1000000000) (B := 1000000000) ⟨by omega, by omega⟩ ⟨by omega, by omega⟩
  have s1 : 0 ≤ a * a := by rcases Int.lt_or_le a 0 with h | h; exact Int.mul_nonneg_of_nonpos_of_nonpos (by omega) (by omega); exact Int.mul_nonneg h h
  have s2 : 0 ≤ b * b := by rcases Int.lt_or_le b 0 with h | h; exact Int.mul_nonneg_of_nonpos_of_nonpos (by omega) (by omega); exact Int.mul_nonneg h h
  rcases Int.lt_or_le (b * b) (a * a) with h2 | h2
  all_goals rcases Int.lt_or_le a 0 with h3 | h3
  all_goals rcases Int.lt_or_le 0 b with h4 | h4
  all_goals
    try (exfalso; have hb : b = a := by omega
         subst hb; omega)
  all_goals
    go_enter Try.func75, Try.ntmps75
    go_wp2_with fail
    refine (impl_IsInterval _ _ _).mono ?_
    rintro e w1 ⟨rfl, hb1⟩
    obtain ⟨c1, f1, c2, f2, zz, bb⟩ := kept2 hb1
    clear hb1
    go_wp2_with fail
    go_quiet (fail)
    replace c1 := cell_dr c1 nq
    replace c2 := cell_dr c2 nq
    replace f2 := frz_dr f2 nq
    replace bb := Bw.dr bb nq
    replace zz : w.heap.size + 2 ≤ (w1.drewN nq).heap.size := zz
    generalize w1.drewN nq = wq at *
    go_wp2_with fail
    refine (impl_asInterval _ _ _).mono ?_
    rintro e w3 ⟨rfl, hb3⟩
    replace bb : Below w.heap.size w w3 := Below.trans (by (repeat (first | with_reducible exact Below.refl _ _ | with_reducible assumption | ((with_reducible refine Bw.set ?_ ?_); rotate_left; focus omega) | ((with_reducible refine Bw.al ?_ ?_); rotate_left; focus (first | omega | (simp; done) | (simp; omega))) | with_reducible refine Below.drew ?_ | with_reducible refine Bw.dr ?_ _))) (hb3.mono (by first | omega | (simp; done) | (simp; omega)))
    first | replace c2 := cell_kept hb3 (by first | omega | (simp; done) | (simp; omega)) c2 | replace c2 := cell_kept hb3 (by first | omega | (simp; done) | (simp; omega)) (cell_alloc c2 (by first | omega | (simp; done) | (simp; omega)) _)
    replace zc2 := lt_cell c2 (by simp)
    first | replace f2 := frz_kept hb3 (by first | omega | (simp; done) | (simp; omega)) f2 | replace f2 := frz_kept hb3 (by first | omega | (simp; done) | (simp; omega)) (frz_alloc f2 (by first | omega | (simp; done) | (simp; omega)) _)
    replace zz : w.heap.size + 2 ≤ w3.heap.size := by have := hb3.size; first | omega | (simp at this; omega)
    clear hb3
    go_wp2_with fail
    refine bodyPost_ret (v := .tuple #[.agg #[.int .i64 (squareIv a b).1, .int .i64 (squareIv a b).2.1], .int .i64 (squareIv a b).2.2]) ?_ rfl ⟨rfl, ?_⟩
    · have hz1 : a = 0 → a * a = 0 := fun h => by rw [h]; rfl
      have hz2 : b = 0 → b * b = 0 := fun h => by rw [h]; rfl
      first
        | (rw [squareIv_of (x := 0) (y := a * a) h1 (by omega) (by omega)]; simp (maxDischargeDepth := 8) [results, Try.results75, go_sem, c2]; done)
        | (rw [squareIv_of (x := 0) (y := b * b) h1 (by omega) (by omega)]; simp (maxDischargeDepth := 8) [results, Try.results75, go_sem, c2]; done)
        | (rw [squareIv_of (x := b * b) (y := a * a) h1 (by omega) (by omega)]; simp (maxDischargeDepth := 8) [results, Try.results75, go_sem, c2]; done)
        | (rw [squareIv_of (x := a * a) (y := b * b) h1 (by omega) (by omega)]; simp (maxDischargeDepth := 8) [results, Try.results75, go_sem, c2]; done)
    · (repeat (first | with_reducible exact Below.refl _ _ | with_reducible assumption | ((with_reducible refine Bw.set ?_ ?_); rotate_left; focus omega) | ((with_reducible refine Bw.al ?_ ?_); rotate_left; focus (first | omega | (simp; done) | (simp; omega))) | with_reducible refine Below.drew ?_ | with_reducible refine Bw.dr ?_ _))
set_option maxHeartbeats 2000000 in
theorem spec_SquareInterval (a b : Int) (w : World) :
    Calls Try.prog 76 #[.agg #[.int .i64 a, .int .i64 b]] w fun e w' => e = .returned (.tuple #[.agg #[.int .i64 (squareIv a b).1, .int .i64 (squareIv a b).2.1], .int .i64 (squareIv a b).2.2]) ∧ Below w.heap.size w w' := by
  rcases h1 : isIv a b with _ | _
  · go_enter Try.func76, Try.ntmps76
    go_wp2_with fail
    refine (spec_IsInterval _ _ _).mono ?_
    rintro e w1 ⟨rfl, hb1⟩
    obtain ⟨c1, f1, c2, f2, zz, bb⟩ := kept2 hb1
    clear hb1
    go_wp2_with fail
    refine bodyPost_ret (v := .tuple #[.agg #[.int .i64 0, .int .i64 0], .int .i64 1]) (by simp (maxDischargeDepth := 8) [results, Try.results76, go_sem, c2]) rfl ⟨?_, ?_⟩
    · simp [squareIv, h1]
    · (repeat (first | with_reducible exact Below.refl _ _ | with_reducible assumption | ((with_reducible refine Bw.set ?_ ?_); rotate_left; focus omega) | ((with_reducible refine Bw.al ?_ ?_); rotate_left; focus (first | omega | (simp; done) | (simp; omega))) | with_reducible refine Below.drew ?_ | with_reducible refine Bw.dr ?_ _))
  have e1 := isIv_t h1
  have q1 := mul_bd (x := a) (n := a) (A := 1000000000) (B := 1000000000) ⟨by omega, by omega⟩ ⟨by omega, by omega⟩
  have q2 := mul_bd (x := b) (n := b) (A := 1000000000) (B := 1000000000) ⟨by omega, by omega⟩ ⟨by omega, by omega⟩
  have s1 : 0 ≤ a * a := by rcases Int.lt_or_le a 0 with h | h; exact Int.mul_nonneg_of_nonpos_of_nonpos (by omega) (by omega); exact Int.mul_nonneg h h
  have s2 : 0 ≤ b * b := by rcases Int.lt_or_le b 0 with h | h; exact Int.mul_nonneg_of_nonpos_of_nonpos (by omega) (by omega); exact Int.mul_nonneg h h
  rcases Int.lt_or_le (b * b) (a * a) with h2 | h2
  all_goals rcases Int.lt_or_le 0 a with h3 | h3
  all_goals rcases Int.lt_or_le b 0 with h4 | h4
  all_goals try (exfalso; omega)
  all_goals
    go_enter Try.func76, Try.ntmps76
    go_wp2_with fail
    refine (spec_IsInterval _ _ _).mono ?_
    rintro e w1 ⟨rfl, hb1⟩
    obtain ⟨c1, f1, c2, f2, zz, bb⟩ := kept2 hb1
    clear hb1
    go_wp2_with fail
    all_goals
      go_wp2_with fail
      refine (spec_Result _ _ _).mono ?_
      rintro e w3 ⟨rfl, hb3⟩
      replace bb : Below w.heap.size w w3 := Below.trans (by (repeat (first | with_reducible exact Below.refl _ _ | with_reducible assumption | ((with_reducible refine Bw.set ?_ ?_); rotate_left; focus omega) | ((with_reducible refine Bw.al ?_ ?_); rotate_left; focus (first | omega | (simp; done) | (simp; omega))) | with_reducible refine Below.drew ?_ | with_reducible refine Bw.dr ?_ _))) (hb3.mono (by first | omega | (simp; done) | (simp; omega)))
      first | replace c2 := cell_kept hb3 (by first | omega | (simp; done) | (simp; omega)) c2 | replace c2 := cell_kept hb3 (by first | omega | (simp; done) | (simp; omega)) (cell_alloc c2 (by first | omega | (simp; done) | (simp; omega)) _)
      replace zc2 := lt_cell c2 (by simp)
      first | replace f2 := frz_kept hb3 (by first | omega | (simp; done) | (simp; omega)) f2 | replace f2 := frz_kept hb3 (by first | omega | (simp; done) | (simp; omega)) (frz_alloc f2 (by first | omega | (simp; done) | (simp; omega)) _)
      replace zz : w.heap.size + 2 ≤ w3.heap.size := by have := hb3.size; first | omega | (simp at this; omega)
      clear hb3
      go_wp2_with fail
      refine bodyPost_ret (v := .tuple #[.agg #[.int .i64 (squareIv a b).1, .int .i64 (squareIv a b).2.1], .int .i64 (squareIv a b).2.2]) ?_ rfl ⟨rfl, ?_⟩
      · first
          | (rw [squareIv_of (x := 0) (y := a * a) h1 (by omega) (by omega)]; simp (maxDischargeDepth := 8) [results, Try.results76, go_sem, c2]; done)
          | (rw [squareIv_of (x := 0) (y := b * b) h1 (by omega) (by omega)]; simp (maxDischargeDepth := 8) [results, Try.results76, go_sem, c2]; done)
          | (rw [squareIv_of (x := b * b) (y := a * a) h1 (by omega) (by omega)]; simp (maxDischargeDepth := 8) [results, Try.results76, go_sem, c2]; done)
          | (rw [squareIv_of (x := a * a) (y := b * b) h1 (by omega) (by omega)]; simp (maxDischargeDepth := 8) [results, Try.results76, go_sem, c2]; done)
          | (rw [squareIv_of (x := a * a) (y := a * a) h1 (by omega) (by omega)]; simp (maxDischargeDepth := 8) [results, Try.results76, go_sem, c2]; done)
          | (rw [squareIv_of (x := b * b) (y := b * b) h1 (by omega) (by omega)]; simp (maxDischargeDepth := 8) [results, Try.results76, go_sem, c2]; done)
      · (repeat (first | with_reducible exact Below.refl _ _ | with_reducible assumption | ((with_reducible refine Bw.set ?_ ?_); rotate_left; focus omega) | ((with_reducible refine Bw.al ?_ ?_); rotate_left; focus (first | omega | (simp; done) | (simp; omega))) | with_reducible refine Below.drew ?_ | with_reducible refine Bw.dr ?_ _))

end Go.Proofs.Ytpejbmfapdocaaa
