/- Contracts of the small functions on intervals. Conditions: those that each theorem names. -/
import Derived.Test.YtpejbmfapdocaaaBase
namespace Go.Proofs.Ytpejbmfapdocaaa
open Go.RowKit

/-- The two numbers as an interval, or code 3. -/
def asIv (lo hi : Int) : Int × Int × Int := if isIv lo hi then (lo, hi, 0) else (0, 0, 3)

set_option maxHeartbeats 400000 in
theorem impl_IsInterval (lo hi : Int) (w : World) :
    Calls Try.prog 44 #[.agg #[.int .i64 lo, .int .i64 hi]] w fun e w' => e = .returned (.bool (isIv lo hi)) ∧ Below w.heap.size w w' := by
  rcases h1 : inB lo (-1000000000) 1000000000 with _ | _
  all_goals rcases h2 : inB hi lo 1000000000 with _ | _
  all_goals
    go_enter Try.func44, Try.ntmps44
    go_wp2_with (go_at_call 119; refine (impl_within _ _ _ _).mono ?_; rintro e w' ⟨rfl, rfl⟩)
    go_ret
    exact ⟨by simp [isIv, h1, h2], (Below.refl _ _).alloc (Nat.le_refl _) _⟩
set_option maxHeartbeats 400000 in
theorem spec_IsInterval (lo hi : Int) (w : World) :
    Calls Try.prog 45 #[.agg #[.int .i64 lo, .int .i64 hi]] w fun e w' => e = .returned (.bool (isIv lo hi)) ∧ Below w.heap.size w w' := by
  rcases h1 : inB lo (-1000000000) 1000000000 with _ | _
  all_goals rcases h2 : inB hi lo 1000000000 with _ | _
  all_goals
    go_enter Try.func45, Try.ntmps45
    go_wp2_with (go_at_call 124; refine (spec_In _ _ _ _).mono ?_; rintro e w' ⟨rfl, rfl⟩)
    go_ret
    exact ⟨by simp [isIv, h1, h2], (Below.refl _ _).alloc (Nat.le_refl _) _⟩
set_option maxHeartbeats 400000 in
theorem impl_asInterval (lo hi : Int) (w : World) :
    Calls Try.prog 120 #[.int .i64 lo, .int .i64 hi] w fun e w' => e = .returned (.tuple #[.agg #[.int .i64 (asIv lo hi).1, .int .i64 (asIv lo hi).2.1], .int .i64 (asIv lo hi).2.2]) ∧ Below w.heap.size w w' := by
  rcases h1 : isIv lo hi with _ | _
  all_goals
    go_enter Try.func120, Try.ntmps120
    go_wp2_with fail
    refine (impl_IsInterval _ _ _).mono ?_
    rintro e w1 ⟨rfl, hb1⟩
    have hz1 := hb1.size; simp only [World.size_alloc] at hz1
    have c1 := cell_kept hb1 (g := w.heap.size) (by simp; omega) (cell_alloc (cell_new w _ _) (by simp) _)
    have f1 := frz_kept hb1 (g := w.heap.size) (by simp; omega) (frz_alloc (frz_new w _ _) (by simp) _)
    have c2 := cell_kept hb1 (g := w.heap.size + 1) (by simp) (by intro i; rw [← World.size_alloc (o := .cells #[.int .i64 0, .int .i64 0] 40)]; exact cell_new _ _ _ i)
    go_wp2
  · exact bodyPost_ret (v := .tuple #[.agg #[.int .i64 0, .int .i64 0], .int .i64 3]) (by simp [results, Try.results120, go_sem, c1]) rfl ⟨by simp [asIv, h1], (((((Below.refl _ _).alloc (Nat.le_refl _) _).alloc (by simp) _).trans (hb1.mono (by simp; omega))).setCell (by simp) _).setCell (by simp) _⟩
  · exact bodyPost_ret (v := .tuple #[.agg #[.int .i64 lo, .int .i64 hi], .int .i64 0]) (by simp [results, Try.results120, go_sem, c1]) rfl ⟨by simp [asIv, h1], (((((Below.refl _ _).alloc (Nat.le_refl _) _).alloc (by simp) _).trans (hb1.mono (by simp; omega))).setCell (by simp) _).setCell (by simp) _⟩
theorem impl_asInterval_ok (lo hi : Int) (h : -1000000000 ≤ lo ∧ lo ≤ hi ∧ hi ≤ 1000000000) (w : World) :
    Calls Try.prog 120 #[.int .i64 lo, .int .i64 hi] w fun e w' => e = .returned (.tuple #[.agg #[.int .i64 lo, .int .i64 hi], .int .i64 0]) ∧ Below w.heap.size w w' := by
  have := impl_asInterval lo hi w
  simp only [asIv, isIv_mk h, if_true] at this
  exact this
set_option maxHeartbeats 400000 in
theorem spec_Result (lo hi : Int) (w : World) :
    Calls Try.prog 122 #[.int .i64 lo, .int .i64 hi] w fun e w' => e = .returned (.tuple #[.agg #[.int .i64 (asIv lo hi).1, .int .i64 (asIv lo hi).2.1], .int .i64 (asIv lo hi).2.2]) ∧ Below w.heap.size w w' := by
  rcases h1 : isIv lo hi with _ | _
  all_goals
    go_enter Try.func122, Try.ntmps122
    go_wp2_with fail
    refine (spec_IsInterval _ _ _).mono ?_
    rintro e w1 ⟨rfl, hb1⟩
    obtain ⟨c1, f1, c2, f2, zz, bb⟩ := kept2 hb1
    go_wp2
  · refine bodyPost_ret (v := .tuple #[.agg #[.int .i64 0, .int .i64 0], .int .i64 3]) (by simp (maxDischargeDepth := 8) [results, Try.results122, go_sem, c1]) rfl ⟨?_, ?_⟩
    · simp [asIv, h1]
    · (repeat (first | with_reducible exact Below.refl _ _ | with_reducible assumption | ((with_reducible refine Bw.set ?_ ?_); rotate_left; focus omega) | ((with_reducible refine Bw.al ?_ ?_); rotate_left; focus (first | omega | (simp; done) | (simp; omega))) | with_reducible refine Below.drew ?_ | with_reducible refine Bw.dr ?_ _))
  · refine bodyPost_ret (v := .tuple #[.agg #[.int .i64 lo, .int .i64 hi], .int .i64 0]) (by simp (maxDischargeDepth := 8) [results, Try.results122, go_sem, c1]) rfl ⟨?_, ?_⟩
    · simp [asIv, h1]
    · (repeat (first | with_reducible exact Below.refl _ _ | with_reducible assumption | ((with_reducible refine Bw.set ?_ ?_); rotate_left; focus omega) | ((with_reducible refine Bw.al ?_ ?_); rotate_left; focus (first | omega | (simp; done) | (simp; omega))) | with_reducible refine Below.drew ?_ | with_reducible refine Bw.dr ?_ _))

end Go.Proofs.Ytpejbmfapdocaaa
