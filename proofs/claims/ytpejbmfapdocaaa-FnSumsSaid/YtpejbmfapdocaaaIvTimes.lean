/- Products of an interval. Conditions: those that each theorem names. -/
import Derived.Test.YtpejbmfapdocaaaIvA
namespace Go.Proofs.Ytpejbmfapdocaaa
open Go.RowKit

def timesIv (a b n : Int) : Int × Int × Int := if isIv a b then (if inB n (-1000000) 1000000 then asIv (min (n * a) (n * b)) (max (n * a) (n * b)) else (0, 0, 2)) else (0, 0, 1)
theorem timesIv_of {a b n x y : Int} (h1 : isIv a b = true) (h2 : inB n (-1000000) 1000000 = true) (hx : x = min (n * a) (n * b)) (hy : y = max (n * a) (n * b)) : timesIv a b n = asIv x y := by
  rw [timesIv, if_pos h1, if_pos h2, hx, hy]
theorem times_low {a b n : Int} (h : a ≤ b) (hn : n < 0) : n * b ≤ n * a := Int.mul_le_mul_of_nonpos_left (by omega) h
theorem times_high {a b n : Int} (h : a ≤ b) (hn : 0 ≤ n) : n * a ≤ n * b := Int.mul_le_mul_of_nonneg_left h hn

set_option maxHeartbeats 1000000 in
theorem impl_TimesInterval (a b n : Int) (w : World) :
    Calls Try.prog 42 #[.agg #[.int .i64 a, .int .i64 b], .int .i64 n] w fun e w' => e = .returned (.tuple #[.agg #[.int .i64 (timesIv a b n).1, .int .i64 (timesIv a b n).2.1], .int .i64 (timesIv a b n).2.2]) ∧ Below w.heap.size w w' := by
  rcases h1 : isIv a b with _ | _
  · go_enter Try.func42, Try.ntmps42
    go_wp2_with fail
    refine (impl_IsInterval _ _ _).mono ?_
    rintro e w1 ⟨rfl, hb1⟩
    obtain ⟨c1, f1, c2, f2, zz, bb⟩ := kept2 hb1
    clear hb1
    go_wp2_with fail
    refine bodyPost_ret (v := .tuple #[.agg #[.int .i64 0, .int .i64 0], .int .i64 1]) (by simp (maxDischargeDepth := 8) [results, Try.results42, go_sem, c2]) rfl ⟨?_, ?_⟩
    · simp [timesIv, h1]
    · (repeat (first | with_reducible exact Below.refl _ _ | with_reducible assumption | ((with_reducible refine Bw.set ?_ ?_); rotate_left; focus omega) | ((with_reducible refine Bw.al ?_ ?_); rotate_left; focus (first | omega | (simp; done) | (simp; omega))) | with_reducible refine Below.drew ?_ | with_reducible refine Bw.dr ?_ _))
  rcases h2 : inB n (-1000000) 1000000 with _ | _
  · go_enter Try.func42, Try.ntmps42
    go_wp2_with fail
    refine (impl_IsInterval _ _ _).mono ?_
    rintro e w1 ⟨rfl, hb1⟩
    obtain ⟨c1, f1, c2, f2, zz, bb⟩ := kept2 hb1
    clear hb1
    go_wp2_with fail
    refine (impl_within _ _ _ _).mono ?_
    rintro e w2 ⟨rfl, rfl⟩
    go_wp2_with fail
    refine bodyPost_ret (v := .tuple #[.agg #[.int .i64 0, .int .i64 0], .int .i64 2]) (by simp (maxDischargeDepth := 8) [results, Try.results42, go_sem, c2]) rfl ⟨?_, ?_⟩
    · simp [timesIv, h1, h2]
    · (repeat (first | with_reducible exact Below.refl _ _ | with_reducible assumption | ((with_reducible refine Bw.set ?_ ?_); rotate_left; focus omega) | ((with_reducible refine Bw.al ?_ ?_); rotate_left; focus (first | omega | (simp; done) | (simp; omega))) | with_reducible refine Below.drew ?_ | with_reducible refine Bw.dr ?_ _))
  have e1 := isIv_t h1
  have e2 := inB_t h2
  have q1 := mul_bd (x := a) (n := n) (A := 1000000000) (B := 1000000) ⟨by omega, by omega⟩ ⟨by omega, by omega⟩
  have q2 := mul_bd (x := b) (n := n) (A := 1000000000) (B := 1000000) ⟨by omega, by omega⟩ ⟨by omega, by omega⟩
  rcases Int.lt_or_le n 0 with h3 | h3
  · go_enter Try.func42, Try.ntmps42
    go_wp2_with fail
    refine (impl_IsInterval _ _ _).mono ?_
    rintro e w1 ⟨rfl, hb1⟩
    obtain ⟨c1, f1, c2, f2, zz, bb⟩ := kept2 hb1
    clear hb1
    go_wp2_with fail
    refine (impl_within _ _ _ _).mono ?_
    rintro e w2 ⟨rfl, rfl⟩
    go_wp2_with fail
    refine (impl_asInterval _ _ _).mono ?_
    rintro e w3 ⟨rfl, hb3⟩
    replace bb : Below w.heap.size w w3 := Below.trans (by (repeat (first | with_reducible exact Below.refl _ _ | with_reducible assumption | ((with_reducible refine Bw.set ?_ ?_); rotate_left; focus omega) | ((with_reducible refine Bw.al ?_ ?_); rotate_left; focus (first | omega | (simp; done) | (simp; omega))) | with_reducible refine Below.drew ?_ | with_reducible refine Bw.dr ?_ _))) (hb3.mono (by first | omega | (simp; done) | (simp; omega)))
    first | replace c2 := cell_kept hb3 (by first | omega | (simp; done) | (simp; omega)) c2 | replace c2 := cell_kept hb3 (by first | omega | (simp; done) | (simp; omega)) (cell_alloc c2 (by first | omega | (simp; done) | (simp; omega)) _)
    replace zc2 := lt_cell c2 (by simp)
    first | replace f2 := frz_kept hb3 (by first | omega | (simp; done) | (simp; omega)) f2 | replace f2 := frz_kept hb3 (by first | omega | (simp; done) | (simp; omega)) (frz_alloc f2 (by first | omega | (simp; done) | (simp; omega)) _)
    replace zz : w.heap.size + 2 ≤ w3.heap.size := by have := hb3.size; first | omega | (simp at this; omega)
    clear hb3
    go_wp2_with fail
    refine bodyPost_ret (v := .tuple #[.agg #[.int .i64 (asIv (b * n) (a * n)).1, .int .i64 (asIv (b * n) (a * n)).2.1], .int .i64 (asIv (b * n) (a * n)).2.2]) (by simp (maxDischargeDepth := 8) [results, Try.results42, go_sem, c2]) rfl ⟨?_, ?_⟩
    · have q3 := times_low e1.2.1 h3
      rw [timesIv, if_pos h1, if_pos h2, show min (n * a) (n * b) = b * n by rw [Int.mul_comm b n]; omega, show max (n * a) (n * b) = a * n by rw [Int.mul_comm a n]; omega]
    · (repeat (first | with_reducible exact Below.refl _ _ | with_reducible assumption | ((with_reducible refine Bw.set ?_ ?_); rotate_left; focus omega) | ((with_reducible refine Bw.al ?_ ?_); rotate_left; focus (first | omega | (simp; done) | (simp; omega))) | with_reducible refine Below.drew ?_ | with_reducible refine Bw.dr ?_ _))
  · go_enter Try.func42, Try.ntmps42
    go_wp2_with fail
    refine (impl_IsInterval _ _ _).mono ?_
    rintro e w1 ⟨rfl, hb1⟩
    obtain ⟨c1, f1, c2, f2, zz, bb⟩ := kept2 hb1
    clear hb1
    go_wp2_with fail
    refine (impl_within _ _ _ _).mono ?_
    rintro e w2 ⟨rfl, rfl⟩
    go_wp2_with fail
    refine (impl_asInterval _ _ _).mono ?_
    rintro e w3 ⟨rfl, hb3⟩
    replace bb : Below w.heap.size w w3 := Below.trans (by (repeat (first | with_reducible exact Below.refl _ _ | with_reducible assumption | ((with_reducible refine Bw.set ?_ ?_); rotate_left; focus omega) | ((with_reducible refine Bw.al ?_ ?_); rotate_left; focus (first | omega | (simp; done) | (simp; omega))) | with_reducible refine Below.drew ?_ | with_reducible refine Bw.dr ?_ _))) (hb3.mono (by first | omega | (simp; done) | (simp; omega)))
    first | replace c2 := cell_kept hb3 (by first | omega | (simp; done) | (simp; omega)) c2 | replace c2 := cell_kept hb3 (by first | omega | (simp; done) | (simp; omega)) (cell_alloc c2 (by first | omega | (simp; done) | (simp; omega)) _)
    replace zc2 := lt_cell c2 (by simp)
    first | replace f2 := frz_kept hb3 (by first | omega | (simp; done) | (simp; omega)) f2 | replace f2 := frz_kept hb3 (by first | omega | (simp; done) | (simp; omega)) (frz_alloc f2 (by first | omega | (simp; done) | (simp; omega)) _)
    replace zz : w.heap.size + 2 ≤ w3.heap.size := by have := hb3.size; first | omega | (simp at this; omega)
    clear hb3
    go_wp2_with fail
    refine bodyPost_ret (v := .tuple #[.agg #[.int .i64 (asIv (a * n) (b * n)).1, .int .i64 (asIv (a * n) (b * n)).2.1], .int .i64 (asIv (a * n) (b * n)).2.2]) (by simp (maxDischargeDepth := 8) [results, Try.results42, go_sem, c2]) rfl ⟨?_, ?_⟩
    · have q3 := times_high e1.2.1 h3
      rw [timesIv, if_pos h1, if_pos h2, show min (n * a) (n * b) = a * n by rw [Int.mul_comm a n]; omega, show max (n * a) (n * b) = b * n by rw [Int.mul_comm b n]; omega]
    · (repeat (first | with_reducible exact Below.refl _ _ | with_reducible assumption | ((with_reducible refine Bw.set ?_ ?_); rotate_left; focus omega) | ((with_reducible refine Bw.al ?_ ?_); rotate_left; focus (first | omega | (simp; done) | (simp; omega))) | with_reducible refine Below.drew ?_ | with_reducible refine Bw.dr ?_ _))
set_option maxHeartbeats 1000000 in
theorem spec_TimesInterval (a b n : Int) (w : World) :
    Calls Try.prog 43 #[.agg #[.int .i64 a, .int .i64 b], .int .i64 n] w fun e w' => e = .returned (.tuple #[.agg #[.int .i64 (timesIv a b n).1, .int .i64 (timesIv a b n).2.1], .int .i64 (timesIv a b n).2.2]) ∧ Below w.heap.size w w' := by
  rcases h1 : isIv a b with _ | _
  · go_enter Try.func43, Try.ntmps43
    go_wp2_with fail
    refine (spec_IsInterval _ _ _).mono ?_
    rintro e w1 ⟨rfl, hb1⟩
    obtain ⟨c1, f1, c2, f2, zz, bb⟩ := kept2 hb1
    clear hb1
    go_wp2_with fail
    refine bodyPost_ret (v := .tuple #[.agg #[.int .i64 0, .int .i64 0], .int .i64 1]) (by simp (maxDischargeDepth := 8) [results, Try.results43, go_sem, c2]) rfl ⟨?_, ?_⟩
    · simp [timesIv, h1]
    · (repeat (first | with_reducible exact Below.refl _ _ | with_reducible assumption | ((with_reducible refine Bw.set ?_ ?_); rotate_left; focus omega) | ((with_reducible refine Bw.al ?_ ?_); rotate_left; focus (first | omega | (simp; done) | (simp; omega))) | with_reducible refine Below.drew ?_ | with_reducible refine Bw.dr ?_ _))
  rcases h2 : inB n (-1000000) 1000000 with _ | _
  · go_enter Try.func43, Try.ntmps43
    go_wp2_with fail
    refine (spec_IsInterval _ _ _).mono ?_
    rintro e w1 ⟨rfl, hb1⟩
    obtain ⟨c1, f1, c2, f2, zz, bb⟩ := kept2 hb1
    clear hb1
    go_wp2_with fail
    refine (spec_In _ _ _ _).mono ?_
    rintro e w2 ⟨rfl, rfl⟩
    go_wp2_with fail
    refine bodyPost_ret (v := .tuple #[.agg #[.int .i64 0, .int .i64 0], .int .i64 2]) (by simp (maxDischargeDepth := 8) [results, Try.results43, go_sem, c2]) rfl ⟨?_, ?_⟩
    · simp [timesIv, h1, h2]
    · (repeat (first | with_reducible exact Below.refl _ _ | with_reducible assumption | ((with_reducible refine Bw.set ?_ ?_); rotate_left; focus omega) | ((with_reducible refine Bw.al ?_ ?_); rotate_left; focus (first | omega | (simp; done) | (simp; omega))) | with_reducible refine Below.drew ?_ | with_reducible refine Bw.dr ?_ _))
  have e1 := isIv_t h1
  have e2 := inB_t h2
  have q1 := mul_bd (x := n) (n := a) (A := 1000000) (B := 1000000000) ⟨by omega, by omega⟩ ⟨by omega, by omega⟩
  have q2 := mul_bd (x := n) (n := b) (A := 1000000) (B := 1000000000) ⟨by omega, by omega⟩ ⟨by omega, by omega⟩
  rcases Int.lt_or_le n 0 with h3 | h3
  · have q3 := times_low e1.2.1 h3
    go_enter Try.func43, Try.ntmps43
    go_wp2_with fail
    refine (spec_IsInterval _ _ _).mono ?_
    rintro e w1 ⟨rfl, hb1⟩
    obtain ⟨c1, f1, c2, f2, zz, bb⟩ := kept2 hb1
    clear hb1
    go_wp2_with fail
    refine (spec_In _ _ _ _).mono ?_
    rintro e w2 ⟨rfl, rfl⟩
    go_wp2_with fail
    all_goals
      go_wp2_with fail
      refine (spec_Result _ _ _).mono ?_
      rintro e w3 ⟨rfl, hb3⟩
      replace bb : Below w.heap.size w w3 := Below.trans (by (repeat (first | with_reducible exact Below.refl _ _ | with_reducible assumption | ((with_reducible refine Bw.set ?_ ?_); rotate_left; focus omega) | ((with_reducible refine Bw.al ?_ ?_); rotate_left; focus (first | omega | (simp; done) | (simp; omega))) | with_reducible refine Below.drew ?_ | with_reducible refine Bw.dr ?_ _))) (hb3.mono (by first | omega | (simp; done) | (simp; omega)))
      first | replace c2 := cell_kept hb3 (by first | omega | (simp; done) | (simp; omega)) c2 | replace c2 := cell_kept hb3 (by first | omega | (simp; done) | (simp; omega)) (cell_alloc c2 (by first | omega | (simp; done) | (simp; omega)) _)
      replace zc2 := lt_cell c2 (by simp)
      first | replace f2 := frz_kept hb3 (by first | omega | (simp; done) | (simp; omega)) f2 | replace f2 := frz_kept hb3 (by first | omega | (simp; done) | (simp; omega)) (frz_alloc f2 (by first | omega | (simp; done) | (simp; omega)) _)
      replace zz : w.heap.size + 2 ≤ w3.heap.size := by have := hb3.size; first | omega | (simp at this; omega)
      clear hb3
      go_wp2_with fail
      refine bodyPost_ret (v := .tuple #[.agg #[.int .i64 (timesIv a b n).1, .int .i64 (timesIv a b n).2.1], .int .i64 (timesIv a b n).2.2]) ?_ rfl ⟨rfl, ?_⟩
      · have hab : b ≤ a → n * a = n * b := fun h => by rw [show a = b by omega]
        first
          | (rw [timesIv_of (x := n * b) (y := n * a) h1 h2 (by omega) (by omega)]; simp (maxDischargeDepth := 8) [results, Try.results43, go_sem, c2]; done)
          | (rw [timesIv_of (x := n * a) (y := n * b) h1 h2 (by omega) (by omega)]; simp (maxDischargeDepth := 8) [results, Try.results43, go_sem, c2]; done)
          | (rw [timesIv_of (x := n * a) (y := n * a) h1 h2 (by omega) (by omega)]; simp (maxDischargeDepth := 8) [results, Try.results43, go_sem, c2]; done)
          | (rw [timesIv_of (x := n * b) (y := n * b) h1 h2 (by omega) (by omega)]; simp (maxDischargeDepth := 8) [results, Try.results43, go_sem, c2]; done)
      · (repeat (first | with_reducible exact Below.refl _ _ | with_reducible assumption | ((with_reducible refine Bw.set ?_ ?_); rotate_left; focus omega) | ((with_reducible refine Bw.al ?_ ?_); rotate_left; focus (first | omega | (simp; done) | (simp; omega))) | with_reducible refine Below.drew ?_ | with_reducible refine Bw.dr ?_ _))
  · have q3 := times_high e1.2.1 h3
    go_enter Try.func43, Try.ntmps43
    go_wp2_with fail
    refine (spec_IsInterval _ _ _).mono ?_
    rintro e w1 ⟨rfl, hb1⟩
    obtain ⟨c1, f1, c2, f2, zz, bb⟩ := kept2 hb1
    clear hb1
    go_wp2_with fail
    refine (spec_In _ _ _ _).mono ?_
    rintro e w2 ⟨rfl, rfl⟩
    go_wp2_with fail
    all_goals
      go_wp2_with fail
      refine (spec_Result _ _ _).mono ?_
      rintro e w3 ⟨rfl, hb3⟩
      replace bb : Below w.heap.size w w3 := Below.trans (by (repeat (first | with_reducible exact Below.refl _ _ | with_reducible assumption | ((with_reducible refine Bw.set ?_ ?_); rotate_left; focus omega) | ((with_reducible refine Bw.al ?_ ?_); rotate_left; focus (first | omega | (simp; done) | (simp; omega))) | with_reducible refine Below.drew ?_ | with_reducible refine Bw.dr ?_ _))) (hb3.mono (by first | omega | (simp; done) | (simp; omega)))
      first | replace c2 := cell_kept hb3 (by first | omega | (simp; done) | (simp; omega)) c2 | replace c2 := cell_kept hb3 (by first | omega | (simp; done) | (simp; omega)) (cell_alloc c2 (by first | omega | (simp; done) | (simp; omega)) _)
      replace zc2 := lt_cell c2 (by simp)
      first | replace f2 := frz_kept hb3 (by first | omega | (simp; done) | (simp; omega)) f2 | replace f2 := frz_kept hb3 (by first | omega | (simp; done) | (simp; omega)) (frz_alloc f2 (by first | omega | (simp; done) | (simp; omega)) _)
      replace zz : w.heap.size + 2 ≤ w3.heap.size := by have := hb3.size; first | omega | (simp at this; omega)
      clear hb3
      go_wp2_with fail
      refine bodyPost_ret (v := .tuple #[.agg #[.int .i64 (timesIv a b n).1, .int .i64 (timesIv a b n).2.1], .int .i64 (timesIv a b n).2.2]) ?_ rfl ⟨rfl, ?_⟩
      · have hab : b ≤ a → n * a = n * b := fun h => by rw [show a = b by omega]
        first
          | (rw [timesIv_of (x := n * b) (y := n * a) h1 h2 (by omega) (by omega)]; simp (maxDischargeDepth := 8) [results, Try.results43, go_sem, c2]; done)
          | (rw [timesIv_of (x := n * a) (y := n * b) h1 h2 (by omega) (by omega)]; simp (maxDischargeDepth := 8) [results, Try.results43, go_sem, c2]; done)
          | (rw [timesIv_of (x := n * a) (y := n * a) h1 h2 (by omega) (by omega)]; simp (maxDischargeDepth := 8) [results, Try.results43, go_sem, c2]; done)
          | (rw [timesIv_of (x := n * b) (y := n * b) h1 h2 (by omega) (by omega)]; simp (maxDischargeDepth := 8) [results, Try.results43, go_sem, c2]; done)
      · (repeat (first | with_reducible exact Below.refl _ _ | with_reducible assumption | ((with_reducible refine Bw.set ?_ ?_); rotate_left; focus omega) | ((with_reducible refine Bw.al ?_ ?_); rotate_left; focus (first | omega | (simp; done) | (simp; omega))) | with_reducible refine Below.drew ?_ | with_reducible refine Bw.dr ?_ _))

end Go.Proofs.Ytpejbmfapdocaaa
