/- The order of two intervals. Conditions: those that each theorem names. -/
import Derived.Test.YtpejbmfapdocaaaIvA
namespace Go.Proofs.Ytpejbmfapdocaaa
open Go.RowKit

def lessB (a b c d : Int) : Bool := isIv a b && isIv c d && decide (b < c)
def lessC (a b c d : Int) : Int := if isIv a b && isIv c d then 0 else 1

set_option maxHeartbeats 1000000 in
theorem impl_IsSurelyLess (a b c d : Int) (w : World) :
    Calls Try.prog 35 #[.agg #[.int .i64 a, .int .i64 b], .agg #[.int .i64 c, .int .i64 d]] w fun e w' => e = .returned (.tuple #[.bool (lessB a b c d), .int .i64 (lessC a b c d)]) ∧ Below w.heap.size w w' := by
  rcases h1 : isIv a b with _ | _
  · go_enter Try.func35, Try.ntmps35
    go_wp2_with fail
    refine (impl_IsInterval _ _ _).mono ?_
    rintro e w1 ⟨rfl, hb1⟩
    obtain ⟨c1, f1, c2, f2, zz, bb⟩ := kept2 hb1
    go_wp2_with fail
    go_ret2
    exact ⟨by simp [lessB, lessC, h1], by (repeat (first | with_reducible exact Below.refl _ _ | with_reducible assumption | ((with_reducible refine Bw.set ?_ ?_); rotate_left; focus omega) | ((with_reducible refine Bw.al ?_ ?_); rotate_left; focus (first | omega | (simp; done) | (simp; omega))) | with_reducible refine Below.drew ?_ | with_reducible refine Bw.dr ?_ _))⟩
  rcases h2 : isIv c d with _ | _
  · go_enter Try.func35, Try.ntmps35
    go_wp2_with fail
    refine (impl_IsInterval _ _ _).mono ?_
    rintro e w1 ⟨rfl, hb1⟩
    obtain ⟨c1, f1, c2, f2, zz, bb⟩ := kept2 hb1
    go_wp2_with fail
    refine (impl_IsInterval _ _ _).mono ?_
    rintro e w2 ⟨rfl, hb2⟩
    replace bb : Below w.heap.size w w2 := Below.trans (by (repeat (first | with_reducible exact Below.refl _ _ | with_reducible assumption | ((with_reducible refine Bw.set ?_ ?_); rotate_left; focus omega) | ((with_reducible refine Bw.al ?_ ?_); rotate_left; focus (first | omega | (simp; done) | (simp; omega))) | with_reducible refine Below.drew ?_ | with_reducible refine Bw.dr ?_ _))) (hb2.mono (by first | omega | (simp; done) | (simp; omega)))
    first | replace c1 := cell_kept hb2 (by first | omega | (simp; done) | (simp; omega)) c1 | replace c1 := cell_kept hb2 (by first | omega | (simp; done) | (simp; omega)) (cell_alloc c1 (by first | omega | (simp; done) | (simp; omega)) _)
    replace zc1 := lt_cell c1 (by simp)
    replace zz : w.heap.size + 2 ≤ w2.heap.size := by have := hb2.size; first | omega | (simp at this; omega)
    clear hb2
    go_wp2_with fail
    go_ret2
    exact ⟨by simp [lessB, lessC, h1, h2], by (repeat (first | with_reducible exact Below.refl _ _ | with_reducible assumption | ((with_reducible refine Bw.set ?_ ?_); rotate_left; focus omega) | ((with_reducible refine Bw.al ?_ ?_); rotate_left; focus (first | omega | (simp; done) | (simp; omega))) | with_reducible refine Below.drew ?_ | with_reducible refine Bw.dr ?_ _))⟩
  go_enter Try.func35, Try.ntmps35
  go_wp2_with fail
  refine (impl_IsInterval _ _ _).mono ?_
  rintro e w1 ⟨rfl, hb1⟩
  obtain ⟨c1, f1, c2, f2, zz, bb⟩ := kept2 hb1
  go_wp2_with fail
  refine (impl_IsInterval _ _ _).mono ?_
  rintro e w2 ⟨rfl, hb2⟩
  replace bb : Below w.heap.size w w2 := Below.trans (by (repeat (first | with_reducible exact Below.refl _ _ | with_reducible assumption | ((with_reducible refine Bw.set ?_ ?_); rotate_left; focus omega) | ((with_reducible refine Bw.al ?_ ?_); rotate_left; focus (first | omega | (simp; done) | (simp; omega))) | with_reducible refine Below.drew ?_ | with_reducible refine Bw.dr ?_ _))) (hb2.mono (by first | omega | (simp; done) | (simp; omega)))
  first | replace c1 := cell_kept hb2 (by first | omega | (simp; done) | (simp; omega)) c1 | replace c1 := cell_kept hb2 (by first | omega | (simp; done) | (simp; omega)) (cell_alloc c1 (by first | omega | (simp; done) | (simp; omega)) _)
  replace zc1 := lt_cell c1 (by simp)
  first | replace c2 := cell_kept hb2 (by first | omega | (simp; done) | (simp; omega)) c2 | replace c2 := cell_kept hb2 (by first | omega | (simp; done) | (simp; omega)) (cell_alloc c2 (by first | omega | (simp; done) | (simp; omega)) _)
  replace zc2 := lt_cell c2 (by simp)
  replace zz : w.heap.size + 2 ≤ w2.heap.size := by have := hb2.size; first | omega | (simp at this; omega)
  clear hb2
  go_wp2_with fail
  go_ret2
  exact ⟨by simp [lessB, lessC, h1, h2], by (repeat (first | with_reducible exact Below.refl _ _ | with_reducible assumption | ((with_reducible refine Bw.set ?_ ?_); rotate_left; focus omega) | ((with_reducible refine Bw.al ?_ ?_); rotate_left; focus (first | omega | (simp; done) | (simp; omega))) | with_reducible refine Below.drew ?_ | with_reducible refine Bw.dr ?_ _))⟩
set_option maxHeartbeats 1000000 in
theorem spec_IsSurelyLess (a b c d : Int) (w : World) :
    Calls Try.prog 36 #[.agg #[.int .i64 a, .int .i64 b], .agg #[.int .i64 c, .int .i64 d]] w fun e w' => e = .returned (.tuple #[.bool (lessB a b c d), .int .i64 (lessC a b c d)]) ∧ Below w.heap.size w w' := by
  rcases h1 : isIv a b with _ | _
  · go_enter Try.func36, Try.ntmps36
    go_wp2_with fail
    refine (spec_IsInterval _ _ _).mono ?_
    rintro e w1 ⟨rfl, hb1⟩
    obtain ⟨c1, f1, c2, f2, zz, bb⟩ := kept2 hb1
    go_wp2_with fail
    go_ret2
    exact ⟨by simp [lessB, lessC, h1], by (repeat (first | with_reducible exact Below.refl _ _ | with_reducible assumption | ((with_reducible refine Bw.set ?_ ?_); rotate_left; focus omega) | ((with_reducible refine Bw.al ?_ ?_); rotate_left; focus (first | omega | (simp; done) | (simp; omega))) | with_reducible refine Below.drew ?_ | with_reducible refine Bw.dr ?_ _))⟩
  rcases h2 : isIv c d with _ | _
  · go_enter Try.func36, Try.ntmps36
    go_wp2_with fail
    refine (spec_IsInterval _ _ _).mono ?_
    rintro e w1 ⟨rfl, hb1⟩
    obtain ⟨c1, f1, c2, f2, zz, bb⟩ := kept2 hb1
    go_wp2_with fail
    refine (spec_IsInterval _ _ _).mono ?_
    rintro e w2 ⟨rfl, hb2⟩
    replace bb : Below w.heap.size w w2 := Below.trans (by (repeat (first | with_reducible exact Below.refl _ _ | with_reducible assumption | ((with_reducible refine Bw.set ?_ ?_); rotate_left; focus omega) | ((with_reducible refine Bw.al ?_ ?_); rotate_left; focus (first | omega | (simp; done) | (simp; omega))) | with_reducible refine Below.drew ?_ | with_reducible refine Bw.dr ?_ _))) (hb2.mono (by first | omega | (simp; done) | (simp; omega)))
    first | replace c1 := cell_kept hb2 (by first | omega | (simp; done) | (simp; omega)) c1 | replace c1 := cell_kept hb2 (by first | omega | (simp; done) | (simp; omega)) (cell_alloc c1 (by first | omega | (simp; done) | (simp; omega)) _)
    replace zc1 := lt_cell c1 (by simp)
    replace zz : w.heap.size + 2 ≤ w2.heap.size := by have := hb2.size; first | omega | (simp at this; omega)
    clear hb2
    go_wp2_with fail
    go_ret2
    exact ⟨by simp [lessB, lessC, h1, h2], by (repeat (first | with_reducible exact Below.refl _ _ | with_reducible assumption | ((with_reducible refine Bw.set ?_ ?_); rotate_left; focus omega) | ((with_reducible refine Bw.al ?_ ?_); rotate_left; focus (first | omega | (simp; done) | (simp; omega))) | with_reducible refine Below.drew ?_ | with_reducible refine Bw.dr ?_ _))⟩
  go_enter Try.func36, Try.ntmps36
  go_wp2_with fail
  refine (spec_IsInterval _ _ _).mono ?_
  rintro e w1 ⟨rfl, hb1⟩
  obtain ⟨c1, f1, c2, f2, zz, bb⟩ := kept2 hb1
  go_wp2_with fail
  refine (spec_IsInterval _ _ _).mono ?_
  rintro e w2 ⟨rfl, hb2⟩
  replace bb : Below w.heap.size w w2 := Below.trans (by (repeat (first | with_reducible exact Below.refl _ _ | with_reducible assumption | ((with_reducible refine Bw.set ?_ ?_); rotate_left; focus omega) | ((with_reducible refine Bw.al ?_ ?_); rotate_left; focus (first | omega | (simp; done) | (simp; omega))) | with_reducible refine Below.drew ?_ | with_reducible refine Bw.dr ?_ _))) (hb2.mono (by first | omega | (simp; done) | (simp; omega)))
  first | replace c1 := cell_kept hb2 (by first | omega | (simp; done) | (simp; omega)) c1 | replace c1 := cell_kept hb2 (by first | omega | (simp; done) | (simp; omega)) (cell_alloc c1 (by first | omega | (simp; done) | (simp; omega)) _)
  replace zc1 := lt_cell c1 (by simp)
  first | replace c2 := cell_kept hb2 (by first | omega | (simp; done) | (simp; omega)) c2 | replace c2 := cell_kept hb2 (by first | omega | (simp; done) | (simp; omega)) (cell_alloc c2 (by first | omega | (simp; done) | (simp; omega)) _)
  replace zc2 := lt_cell c2 (by simp)
  replace zz : w.heap.size + 2 ≤ w2.heap.size := by have := hb2.size; first | omega | (simp at this; omega)
  clear hb2
  go_wp2_with fail
  go_ret2
  exact ⟨by simp [lessB, lessC, h1, h2], by (repeat (first | with_reducible exact Below.refl _ _ | with_reducible assumption | ((with_reducible refine Bw.set ?_ ?_); rotate_left; focus omega) | ((with_reducible refine Bw.al ?_ ?_); rotate_left; focus (first | omega | (simp; done) | (simp; omega))) | with_reducible refine Below.drew ?_ | with_reducible refine Bw.dr ?_ _))⟩

end Go.Proofs.Ytpejbmfapdocaaa
