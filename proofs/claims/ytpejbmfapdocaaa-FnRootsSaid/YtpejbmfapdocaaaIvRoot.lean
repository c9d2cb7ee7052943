/- Roots of an interval. Conditions: those that each theorem names. -/
import Derived.Test.YtpejbmfapdocaaaIvA
import Derived.Test.YtpejbmfapdocaaaRoots
namespace Go.Proofs.Ytpejbmfapdocaaa
open Go.RowKit

def rootIv (a b : Int) : Int × Int × Int := if isIv a b then (if a < 0 then (0, 0, 5) else (isqI a, isqU b, 0)) else (0, 0, 1)

theorem isqI_end {b : Int} (h0 : 0 ≤ b) (h1 : b ≤ 1000000000) : 0 ≤ isqI b ∧ isqI b ≤ 31623 :=
  ⟨(isqI_spec h0).1, isqI_le h0 (by omega) (by omega)⟩
set_option maxHeartbeats 2000000 in
theorem impl_RootInterval (a b : Int) (w : World) :
    Calls Try.prog 78 #[.agg #[.int .i64 a, .int .i64 b]] w fun e w' => e = .returned (.tuple #[.agg #[.int .i64 (rootIv a b).1, .int .i64 (rootIv a b).2.1], .int .i64 (rootIv a b).2.2]) ∧ Below w.heap.size w w' := by
  rcases h1 : isIv a b with _ | _
  · go_enter Try.func78, Try.ntmps78
    go_wp2_with fail
    refine (impl_IsInterval _ _ _).mono ?_
    rintro e w1 ⟨rfl, hb1⟩
    obtain ⟨c1, f1, c2, f2, zz, bb⟩ := kept2 hb1
    clear hb1
    go_wp2_with fail
    refine bodyPost_ret (v := .tuple #[.agg #[.int .i64 0, .int .i64 0], .int .i64 1]) (by simp (maxDischargeDepth := 8) [results, Try.results78, go_sem, c2]) rfl ⟨?_, ?_⟩
    · simp [rootIv, h1]
    · (repeat (first | with_reducible exact Below.refl _ _ | with_reducible assumption | ((with_reducible refine Bw.set ?_ ?_); rotate_left; focus omega) | ((with_reducible refine Bw.al ?_ ?_); rotate_left; focus (first | omega | (simp; done) | (simp; omega))) | with_reducible refine Below.drew ?_ | with_reducible refine Bw.dr ?_ _))
  have e1 := isIv_t h1
  rcases Int.lt_or_le a 0 with h2 | h2
  · go_enter Try.func78, Try.ntmps78
    go_wp2_with fail
    refine (impl_IsInterval _ _ _).mono ?_
    rintro e w1 ⟨rfl, hb1⟩
    obtain ⟨c1, f1, c2, f2, zz, bb⟩ := kept2 hb1
    clear hb1
    go_wp2_with fail
    refine bodyPost_ret (v := .tuple #[.agg #[.int .i64 0, .int .i64 0], .int .i64 5]) (by simp (maxDischargeDepth := 8) [results, Try.results78, go_sem, c2]) rfl ⟨?_, ?_⟩
    · simp [rootIv, h1, h2]
    · (repeat (first | with_reducible exact Below.refl _ _ | with_reducible assumption | ((with_reducible refine Bw.set ?_ ?_); rotate_left; focus omega) | ((with_reducible refine Bw.al ?_ ?_); rotate_left; focus (first | omega | (simp; done) | (simp; omega))) | with_reducible refine Below.drew ?_ | with_reducible refine Bw.dr ?_ _))
  have hb0 : 0 ≤ b := by omega
  have k1 := isqI_end hb0 e1.2.2
  have k2 := isqI_end h2 (by omega)
  have k3 := isqI_mono e1.2.1
  have k4 := sq_bd k1
  rcases Int.lt_or_le (isqI b * isqI b) b with h3 | h3
  all_goals
    go_enter Try.func78, Try.ntmps78
    go_wp2_with fail
    refine (impl_IsInterval _ _ _).mono ?_
    rintro e w1 ⟨rfl, hb1⟩
    obtain ⟨c1, f1, c2, f2, zz, bb⟩ := kept2 hb1
    clear hb1
    go_wp2_with fail
    refine (impl_root _ hb0 (by omega) _).mono ?_
    rintro e w2 ⟨rfl, rfl⟩
    go_wp2_with fail
    refine (impl_root _ h2 (by omega) _).mono ?_
    rintro e w2 ⟨rfl, rfl⟩
    go_wp2_with fail
    refine (impl_asInterval_ok _ _ (by omega) _).mono ?_
    rintro e w3 ⟨rfl, hb3⟩
    replace bb : Below w.heap.size w w3 := Below.trans (by (repeat (first | with_reducible exact Below.refl _ _ | with_reducible assumption | ((with_reducible refine Bw.set ?_ ?_); rotate_left; focus omega) | ((with_reducible refine Bw.al ?_ ?_); rotate_left; focus (first | omega | (simp; done) | (simp; omega))) | with_reducible refine Below.drew ?_ | with_reducible refine Bw.dr ?_ _))) (hb3.mono (by first | omega | (simp; done) | (simp; omega)))
    first | replace c2 := cell_kept hb3 (by first | omega | (simp; done) | (simp; omega)) c2 | replace c2 := cell_kept hb3 (by first | omega | (simp; done) | (simp; omega)) (cell_alloc c2 (by first | omega | (simp; done) | (simp; omega)) _)
    replace zc2 := lt_cell c2 (by simp)
    first | replace f2 := frz_kept hb3 (by first | omega | (simp; done) | (simp; omega)) f2 | replace f2 := frz_kept hb3 (by first | omega | (simp; done) | (simp; omega)) (frz_alloc f2 (by first | omega | (simp; done) | (simp; omega)) _)
    replace zz : w.heap.size + 2 ≤ w3.heap.size := by have := hb3.size; first | omega | (simp at this; omega)
    clear hb3
    go_wp2_with fail
  · refine bodyPost_ret (v := .tuple #[.agg #[.int .i64 (isqI a), .int .i64 (isqI b + 1)], .int .i64 0]) (by simp (maxDischargeDepth := 8) [results, Try.results78, go_sem, c2]) rfl ⟨?_, ?_⟩
    · rw [rootIv, if_pos h1, if_neg (by omega), isqU, if_pos h3]
    · (repeat (first | with_reducible exact Below.refl _ _ | with_reducible assumption | ((with_reducible refine Bw.set ?_ ?_); rotate_left; focus omega) | ((with_reducible refine Bw.al ?_ ?_); rotate_left; focus (first | omega | (simp; done) | (simp; omega))) | with_reducible refine Below.drew ?_ | with_reducible refine Bw.dr ?_ _))
  · refine bodyPost_ret (v := .tuple #[.agg #[.int .i64 (isqI a), .int .i64 (isqI b)], .int .i64 0]) (by simp (maxDischargeDepth := 8) [results, Try.results78, go_sem, c2]) rfl ⟨?_, ?_⟩
    · rw [rootIv, if_pos h1, if_neg (by omega), isqU, if_neg (by omega)]
    · (repeat (first | with_reducible exact Below.refl _ _ | with_reducible assumption | ((with_reducible refine Bw.set ?_ ?_); rotate_left; focus omega) | ((with_reducible refine Bw.al ?_ ?_); rotate_left; focus (first | omega | (simp; done) | (simp; omega))) | with_reducible refine Below.drew ?_ | with_reducible refine Bw.dr ?_ _))
set_option maxHeartbeats 2000000 in
theorem spec_RootInterval (a b : Int) (w : World) :
    Calls Try.prog 79 #[.agg #[.int .i64 a, .int .i64 b]] w fun e w' => e = .returned (.tuple #[.agg #[.int .i64 (rootIv a b).1, .int .i64 (rootIv a b).2.1], .int .i64 (rootIv a b).2.2]) ∧ Below w.heap.size w w' := by
  rcases h1 : isIv a b with _ | _
  · go_enter Try.func79, Try.ntmps79
    go_wp2_with fail
    refine (spec_IsInterval _ _ _).mono ?_
    rintro e w1 ⟨rfl, hb1⟩
    obtain ⟨c1, f1, c2, f2, zz, bb⟩ := kept2 hb1
    clear hb1
    go_wp2_with fail
    refine bodyPost_ret (v := .tuple #[.agg #[.int .i64 0, .int .i64 0], .int .i64 1]) (by simp (maxDischargeDepth := 8) [results, Try.results79, go_sem, c2]) rfl ⟨?_, ?_⟩
    · simp [rootIv, h1]
    · (repeat (first | with_reducible exact Below.refl _ _ | with_reducible assumption | ((with_reducible refine Bw.set ?_ ?_); rotate_left; focus omega) | ((with_reducible refine Bw.al ?_ ?_); rotate_left; focus (first | omega | (simp; done) | (simp; omega))) | with_reducible refine Below.drew ?_ | with_reducible refine Bw.dr ?_ _))
  have e1 := isIv_t h1
  rcases Int.lt_or_le a 0 with h2 | h2
  · go_enter Try.func79, Try.ntmps79
    go_wp2_with fail
    refine (spec_IsInterval _ _ _).mono ?_
    rintro e w1 ⟨rfl, hb1⟩
    obtain ⟨c1, f1, c2, f2, zz, bb⟩ := kept2 hb1
    clear hb1
    go_wp2_with fail
    refine bodyPost_ret (v := .tuple #[.agg #[.int .i64 0, .int .i64 0], .int .i64 5]) (by simp (maxDischargeDepth := 8) [results, Try.results79, go_sem, c2]) rfl ⟨?_, ?_⟩
    · simp [rootIv, h1, h2]
    · (repeat (first | with_reducible exact Below.refl _ _ | with_reducible assumption | ((with_reducible refine Bw.set ?_ ?_); rotate_left; focus omega) | ((with_reducible refine Bw.al ?_ ?_); rotate_left; focus (first | omega | (simp; done) | (simp; omega))) | with_reducible refine Below.drew ?_ | with_reducible refine Bw.dr ?_ _))
  have hb0 : 0 ≤ b := by omega
  go_enter Try.func79, Try.ntmps79
  go_wp2_with fail
  refine (spec_IsInterval _ _ _).mono ?_
  rintro e w1 ⟨rfl, hb1⟩
  obtain ⟨c1, f1, c2, f2, zz, bb⟩ := kept2 hb1
  clear hb1
  go_wp2_with fail
  go_region_held3 (fun w' => w'.cell? ⟨w.heap.size, 0, none⟩ = some (.int .i64 a) ∧ w'.cell? ⟨w.heap.size, 1, none⟩ = some (.int .i64 b)) (go_keep)
    (first | (go_at_call 140; refine (spec_Root _ h2 (by omega) _).mono ?_; rintro e w' ⟨rfl, rfl⟩) | (go_at_call 141; refine (spec_RootUp _ hb0 (by omega) _).mono ?_; rintro e w' ⟨rfl, rfl⟩))
  go_wp2_with fail
  refine bodyPost_ret (v := .tuple #[.agg #[.int .i64 (isqI a), .int .i64 (isqU b)], .int .i64 0]) (by simp (maxDischargeDepth := 8) [results, Try.results79, go_sem, c2]) rfl ⟨?_, ?_⟩
  · rw [rootIv, if_pos h1, if_neg (by omega)]
  · (repeat (first | with_reducible exact Below.refl _ _ | with_reducible assumption | ((with_reducible refine Bw.set ?_ ?_); rotate_left; focus omega) | ((with_reducible refine Bw.al ?_ ?_); rotate_left; focus (first | omega | (simp; done) | (simp; omega))) | with_reducible refine Below.drew ?_ | with_reducible refine Bw.dr ?_ _))

end Go.Proofs.Ytpejbmfapdocaaa
