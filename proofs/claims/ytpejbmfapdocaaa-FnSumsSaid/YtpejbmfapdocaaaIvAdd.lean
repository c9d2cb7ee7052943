/- The sum of two intervals. Conditions: those that each theorem names. -/
import Derived.Test.YtpejbmfapdocaaaIvA
namespace Go.Proofs.Ytpejbmfapdocaaa
open Go.RowKit

/-- The interval of all sums, with its code. -/
def addIv (a b c d : Int) : Int × Int × Int := if isIv a b && isIv c d then asIv (a + c) (b + d) else (0, 0, 1)

set_option maxHeartbeats 400000 in
theorem impl_AddIntervals (a b c d : Int) (w : World) :
    Calls Try.prog 39 #[.agg #[.int .i64 a, .int .i64 b], .agg #[.int .i64 c, .int .i64 d]] w fun e w' => e = .returned (.tuple #[.agg #[.int .i64 (addIv a b c d).1, .int .i64 (addIv a b c d).2.1], .int .i64 (addIv a b c d).2.2]) ∧ Below w.heap.size w w' := by
  rcases h1 : isIv a b with _ | _
  · go_enter Try.func39, Try.ntmps39
    go_wp2_with fail
    refine (impl_IsInterval _ _ _).mono ?_
    rintro e w1 ⟨rfl, hb1⟩
    obtain ⟨c1, f1, c2, f2, c3, f3, zz, bb⟩ := kept3 hb1
    go_wp2_with fail
    refine bodyPost_ret (v := .tuple #[.agg #[.int .i64 0, .int .i64 0], .int .i64 1]) (by simp (maxDischargeDepth := 8) [results, Try.results39, go_sem, c3]) rfl ⟨?_, ?_⟩
    · simp [addIv, h1]
    · (repeat (first | with_reducible exact Below.refl _ _ | with_reducible assumption | ((with_reducible refine Bw.set ?_ ?_); rotate_left; focus omega) | ((with_reducible refine Bw.al ?_ ?_); rotate_left; focus (first | omega | (simp; done) | (simp; omega))) | with_reducible refine Below.drew ?_ | with_reducible refine Bw.dr ?_ _))
  rcases h2 : isIv c d with _ | _
  · go_enter Try.func39, Try.ntmps39
    go_wp2_with fail
    refine (impl_IsInterval _ _ _).mono ?_
    rintro e w1 ⟨rfl, hb1⟩
    obtain ⟨c1, f1, c2, f2, c3, f3, zz, bb⟩ := kept3 hb1
    go_wp2_with fail
    refine (impl_IsInterval _ _ _).mono ?_
    rintro e w2 ⟨rfl, hb2⟩
    replace bb : Below w.heap.size w w2 := Below.trans (by (repeat (first | with_reducible exact Below.refl _ _ | with_reducible assumption | ((with_reducible refine Bw.set ?_ ?_); rotate_left; focus omega) | ((with_reducible refine Bw.al ?_ ?_); rotate_left; focus (first | omega | (simp; done) | (simp; omega))) | with_reducible refine Below.drew ?_ | with_reducible refine Bw.dr ?_ _))) (hb2.mono (by first | omega | (simp; done) | (simp; omega)))
    first | replace c3 := cell_kept hb2 (by first | omega | (simp; done) | (simp; omega)) c3 | replace c3 := cell_kept hb2 (by first | omega | (simp; done) | (simp; omega)) (cell_alloc c3 (by first | omega | (simp; done) | (simp; omega)) _)
    replace zc3 := lt_cell c3 (by simp)
    first | replace f3 := frz_kept hb2 (by first | omega | (simp; done) | (simp; omega)) f3 | replace f3 := frz_kept hb2 (by first | omega | (simp; done) | (simp; omega)) (frz_alloc f3 (by first | omega | (simp; done) | (simp; omega)) _)
    replace zz : w.heap.size + 3 ≤ w2.heap.size := by have := hb2.size; first | omega | (simp at this; omega)
    clear hb2
    go_wp2_with fail
    refine bodyPost_ret (v := .tuple #[.agg #[.int .i64 0, .int .i64 0], .int .i64 1]) (by simp (maxDischargeDepth := 8) [results, Try.results39, go_sem, c3]) rfl ⟨?_, ?_⟩
    · simp [addIv, h1, h2]
    · (repeat (first | with_reducible exact Below.refl _ _ | with_reducible assumption | ((with_reducible refine Bw.set ?_ ?_); rotate_left; focus omega) | ((with_reducible refine Bw.al ?_ ?_); rotate_left; focus (first | omega | (simp; done) | (simp; omega))) | with_reducible refine Below.drew ?_ | with_reducible refine Bw.dr ?_ _))
  have e1 := isIv_t h1
  have e2 := isIv_t h2
  go_enter Try.func39, Try.ntmps39
  go_wp2_with fail
  refine (impl_IsInterval _ _ _).mono ?_
  rintro e w1 ⟨rfl, hb1⟩
  obtain ⟨c1, f1, c2, f2, c3, f3, zz, bb⟩ := kept3 hb1
  go_wp2_with fail
  refine (impl_IsInterval _ _ _).mono ?_
  rintro e w2 ⟨rfl, hb2⟩
  replace bb : Below w.heap.size w w2 := Below.trans (by (repeat (first | with_reducible exact Below.refl _ _ | with_reducible assumption | ((with_reducible refine Bw.set ?_ ?_); rotate_left; focus omega) | ((with_reducible refine Bw.al ?_ ?_); rotate_left; focus (first | omega | (simp; done) | (simp; omega))) | with_reducible refine Below.drew ?_ | with_reducible refine Bw.dr ?_ _))) (hb2.mono (by first | omega | (simp; done) | (simp; omega)))
  first | replace c1 := cell_kept hb2 (by first | omega | (simp; done) | (simp; omega)) c1 | replace c1 := cell_kept hb2 (by first | omega | (simp; done) | (simp; omega)) (cell_alloc c1 (by first | omega | (simp; done) | (simp; omega)) _)
  replace zc1 := lt_cell c1 (by simp)
  first | replace c2 := cell_kept hb2 (by first | omega | (simp; done) | (simp; omega)) c2 | replace c2 := cell_kept hb2 (by first | omega | (simp; done) | (simp; omega)) (cell_alloc c2 (by first | omega | (simp; done) | (simp; omega)) _)
  replace zc2 := lt_cell c2 (by simp)
  first | replace c3 := cell_kept hb2 (by first | omega | (simp; done) | (simp; omega)) c3 | replace c3 := cell_kept hb2 (by first | omega | (simp; done) | (simp; omega)) (cell_alloc c3 (by first | omega | (simp; done) | (simp; omega)) _)
  replace zc3 := lt_cell c3 (by simp)
  first | replace f3 := frz_kept hb2 (by first | omega | (simp; done) | (simp; omega)) f3 | replace f3 := frz_kept hb2 (by first | omega | (simp; done) | (simp; omega)) (frz_alloc f3 (by first | omega | (simp; done) | (simp; omega)) _)
  replace zz : w.heap.size + 3 ≤ w2.heap.size := by have := hb2.size; first | omega | (simp at this; omega)
  clear hb2
  go_wp2_with fail
  refine (impl_asInterval _ _ _).mono ?_
  rintro e w3 ⟨rfl, hb3⟩
  replace bb : Below w.heap.size w w3 := Below.trans (by (repeat (first | with_reducible exact Below.refl _ _ | with_reducible assumption | ((with_reducible refine Bw.set ?_ ?_); rotate_left; focus omega) | ((with_reducible refine Bw.al ?_ ?_); rotate_left; focus (first | omega | (simp; done) | (simp; omega))) | with_reducible refine Below.drew ?_ | with_reducible refine Bw.dr ?_ _))) (hb3.mono (by first | omega | (simp; done) | (simp; omega)))
  first | replace c3 := cell_kept hb3 (by first | omega | (simp; done) | (simp; omega)) c3 | replace c3 := cell_kept hb3 (by first | omega | (simp; done) | (simp; omega)) (cell_alloc c3 (by first | omega | (simp; done) | (simp; omega)) _)
  replace zc3 := lt_cell c3 (by simp)
  first | replace f3 := frz_kept hb3 (by first | omega | (simp; done) | (simp; omega)) f3 | replace f3 := frz_kept hb3 (by first | omega | (simp; done) | (simp; omega)) (frz_alloc f3 (by first | omega | (simp; done) | (simp; omega)) _)
  replace zz : w.heap.size + 3 ≤ w3.heap.size := by have := hb3.size; first | omega | (simp at this; omega)
  clear hb3
  go_wp2_with fail
  refine bodyPost_ret (v := .tuple #[.agg #[.int .i64 (asIv (a + c) (b + d)).1, .int .i64 (asIv (a + c) (b + d)).2.1], .int .i64 (asIv (a + c) (b + d)).2.2]) (by simp (maxDischargeDepth := 8) [results, Try.results39, go_sem, c3]) rfl ⟨?_, ?_⟩
  · simp [addIv, h1, h2]
  · (repeat (first | with_reducible exact Below.refl _ _ | with_reducible assumption | ((with_reducible refine Bw.set ?_ ?_); rotate_left; focus omega) | ((with_reducible refine Bw.al ?_ ?_); rotate_left; focus (first | omega | (simp; done) | (simp; omega))) | with_reducible refine Below.drew ?_ | with_reducible refine Bw.dr ?_ _))
set_option maxHeartbeats 1000000 in
theorem spec_AddIntervals (a b c d : Int) (w : World) :
    Calls Try.prog 40 #[.agg #[.int .i64 a, .int .i64 b], .agg #[.int .i64 c, .int .i64 d]] w fun e w' => e = .returned (.tuple #[.agg #[.int .i64 (addIv a b c d).1, .int .i64 (addIv a b c d).2.1], .int .i64 (addIv a b c d).2.2]) ∧ Below w.heap.size w w' := by
  rcases h1 : isIv a b with _ | _
  · go_enter Try.func40, Try.ntmps40
    go_wp2_with fail
    refine (spec_IsInterval _ _ _).mono ?_
    rintro e w1 ⟨rfl, hb1⟩
    obtain ⟨c1, f1, c2, f2, c3, f3, zz, bb⟩ := kept3 hb1
    go_wp2_with fail
    refine bodyPost_ret (v := .tuple #[.agg #[.int .i64 0, .int .i64 0], .int .i64 1]) (by simp (maxDischargeDepth := 8) [results, Try.results40, go_sem, c3]) rfl ⟨?_, ?_⟩
    · simp [addIv, h1]
    · (repeat (first | with_reducible exact Below.refl _ _ | with_reducible assumption | ((with_reducible refine Bw.set ?_ ?_); rotate_left; focus omega) | ((with_reducible refine Bw.al ?_ ?_); rotate_left; focus (first | omega | (simp; done) | (simp; omega))) | with_reducible refine Below.drew ?_ | with_reducible refine Bw.dr ?_ _))
  rcases h2 : isIv c d with _ | _
  · go_enter Try.func40, Try.ntmps40
    go_wp2_with fail
    refine (spec_IsInterval _ _ _).mono ?_
    rintro e w1 ⟨rfl, hb1⟩
    obtain ⟨c1, f1, c2, f2, c3, f3, zz, bb⟩ := kept3 hb1
    go_wp2_with fail
    refine (spec_IsInterval _ _ _).mono ?_
    rintro e w2 ⟨rfl, hb2⟩
    replace bb : Below w.heap.size w w2 := Below.trans (by (repeat (first | with_reducible exact Below.refl _ _ | with_reducible assumption | ((with_reducible refine Bw.set ?_ ?_); rotate_left; focus omega) | ((with_reducible refine Bw.al ?_ ?_); rotate_left; focus (first | omega | (simp; done) | (simp; omega))) | with_reducible refine Below.drew ?_ | with_reducible refine Bw.dr ?_ _))) (hb2.mono (by first | omega | (simp; done) | (simp; omega)))
    first | replace c3 := cell_kept hb2 (by first | omega | (simp; done) | (simp; omega)) c3 | replace c3 := cell_kept hb2 (by first | omega | (simp; done) | (simp; omega)) (cell_alloc c3 (by first | omega | (simp; done) | (simp; omega)) _)
    replace zc3 := lt_cell c3 (by simp)
    first | replace f3 := frz_kept hb2 (by first | omega | (simp; done) | (simp; omega)) f3 | replace f3 := frz_kept hb2 (by first | omega | (simp; done) | (simp; omega)) (frz_alloc f3 (by first | omega | (simp; done) | (simp; omega)) _)
    replace zz : w.heap.size + 3 ≤ w2.heap.size := by have := hb2.size; first | omega | (simp at this; omega)
    clear hb2
    go_wp2_with fail
    refine bodyPost_ret (v := .tuple #[.agg #[.int .i64 0, .int .i64 0], .int .i64 1]) (by simp (maxDischargeDepth := 8) [results, Try.results40, go_sem, c3]) rfl ⟨?_, ?_⟩
    · simp [addIv, h1, h2]
    · (repeat (first | with_reducible exact Below.refl _ _ | with_reducible assumption | ((with_reducible refine Bw.set ?_ ?_); rotate_left; focus omega) | ((with_reducible refine Bw.al ?_ ?_); rotate_left; focus (first | omega | (simp; done) | (simp; omega))) | with_reducible refine Below.drew ?_ | with_reducible refine Bw.dr ?_ _))
  have e1 := isIv_t h1
  have e2 := isIv_t h2
  go_enter Try.func40, Try.ntmps40
  go_wp2_with fail
  refine (spec_IsInterval _ _ _).mono ?_
  rintro e w1 ⟨rfl, hb1⟩
  obtain ⟨c1, f1, c2, f2, c3, f3, zz, bb⟩ := kept3 hb1
  go_wp2_with fail
  refine (spec_IsInterval _ _ _).mono ?_
  rintro e w2 ⟨rfl, hb2⟩
  replace bb : Below w.heap.size w w2 := Below.trans (by (repeat (first | with_reducible exact Below.refl _ _ | with_reducible assumption | ((with_reducible refine Bw.set ?_ ?_); rotate_left; focus omega) | ((with_reducible refine Bw.al ?_ ?_); rotate_left; focus (first | omega | (simp; done) | (simp; omega))) | with_reducible refine Below.drew ?_ | with_reducible refine Bw.dr ?_ _))) (hb2.mono (by first | omega | (simp; done) | (simp; omega)))
  first | replace c1 := cell_kept hb2 (by first | omega | (simp; done) | (simp; omega)) c1 | replace c1 := cell_kept hb2 (by first | omega | (simp; done) | (simp; omega)) (cell_alloc c1 (by first | omega | (simp; done) | (simp; omega)) _)
  replace zc1 := lt_cell c1 (by simp)
  first | replace c2 := cell_kept hb2 (by first | omega | (simp; done) | (simp; omega)) c2 | replace c2 := cell_kept hb2 (by first | omega | (simp; done) | (simp; omega)) (cell_alloc c2 (by first | omega | (simp; done) | (simp; omega)) _)
  replace zc2 := lt_cell c2 (by simp)
  first | replace c3 := cell_kept hb2 (by first | omega | (simp; done) | (simp; omega)) c3 | replace c3 := cell_kept hb2 (by first | omega | (simp; done) | (simp; omega)) (cell_alloc c3 (by first | omega | (simp; done) | (simp; omega)) _)
  replace zc3 := lt_cell c3 (by simp)
  first | replace f3 := frz_kept hb2 (by first | omega | (simp; done) | (simp; omega)) f3 | replace f3 := frz_kept hb2 (by first | omega | (simp; done) | (simp; omega)) (frz_alloc f3 (by first | omega | (simp; done) | (simp; omega)) _)
  replace zz : w.heap.size + 3 ≤ w2.heap.size := by have := hb2.size; first | omega | (simp at this; omega)
  clear hb2
  go_wp2_with fail
  refine (spec_Result _ _ _).mono ?_
  rintro e w3 ⟨rfl, hb3⟩
  replace bb : Below w.heap.size w w3 := Below.trans (by (repeat (first | with_reducible exact Below.refl _ _ | with_reducible assumption | ((with_reducible refine Bw.set ?_ ?_); rotate_left; focus omega) | ((with_reducible refine Bw.al ?_ ?_); rotate_left; focus (first | omega | (simp; done) | (simp; omega))) | with_reducible refine Below.drew ?_ | with_reducible refine Bw.dr ?_ _))) (hb3.mono (by first | omega | (simp; done) | (simp; omega)))
  first | replace c3 := cell_kept hb3 (by first | omega | (simp; done) | (simp; omega)) c3 | replace c3 := cell_kept hb3 (by first | omega | (simp; done) | (simp; omega)) (cell_alloc c3 (by first | omega | (simp; done) | (simp; omega)) _)
  replace zc3 := lt_cell c3 (by simp)
  first | replace f3 := frz_kept hb3 (by first | omega | (simp; done) | (simp; omega)) f3 | replace f3 := frz_kept hb3 (by first | omega | (simp; done) | (simp; omega)) (frz_alloc f3 (by first | omega | (simp; done) | (simp; omega)) _)
  replace zz : w.heap.size + 3 ≤ w3.heap.size := by have := hb3.size; first | omega | (simp at this; omega)
  clear hb3
  go_wp2_with fail
  refine bodyPost_ret (v := .tuple #[.agg #[.int .i64 (asIv (a + c) (b + d)).1, .int .i64 (asIv (a + c) (b + d)).2.1], .int .i64 (asIv (a + c) (b + d)).2.2]) (by simp (maxDischargeDepth := 8) [results, Try.results40, go_sem, c3]) rfl ⟨?_, ?_⟩
  · simp [addIv, h1, h2]
  · (repeat (first | with_reducible exact Below.refl _ _ | with_reducible assumption | ((with_reducible refine Bw.set ?_ ?_); rotate_left; focus omega) | ((with_reducible refine Bw.al ?_ ?_); rotate_left; focus (first | omega | (simp; done) | (simp; omega))) | with_reducible refine Below.drew ?_ | with_reducible refine Bw.dr ?_ _))

end Go.Proofs.Ytpejbmfapdocaaa
