/- Mirrors, the dish and the most crosses. No condition. -/
import Derived.Test.YtpejbmfapdocaaaWhC
import Derived.Test.YtpejbmfapdocaaaWhT
namespace Go.Proofs.Ytpejbmfapdocaaa
open Go.RowKit

def crossF (n : Int) : Int × Int := if holesB n then (n / 4 - 1, 0) else (0, 2)
def dishF (h l r lo ro rh rd rf cr : Int) : Int × Int := if wheelB h l r lo ro rh rd rf cr then (ro - lo - 2 * rf, 0) else (0, 1)
/-- The k-th number of what MirrorHub and MirrorWheel hand back. -/
def mhF (b : Bool) (x : Int) : Int := if b then x else 0
def mhC (b : Bool) : Int := if b then 0 else 1

set_option maxHeartbeats 1000000 in
theorem impl_mirrored (h l r lo ro : Int) (w : World) : Calls Try.prog 131 #[.agg #[.int .i64 h, .int .i64 l, .int .i64 r, .int .i64 lo, .int .i64 ro]] w fun e w' => e = .returned (.agg #[.int .i64 h, .int .i64 r, .int .i64 l, .int .i64 ro, .int .i64 lo]) ∧ Below w.heap.size w w' := by
  go_enter Try.func131, Try.ntmps131
  go_wp2
  refine bodyPost_ret (v := .agg #[.int .i64 h, .int .i64 r, .int .i64 l, .int .i64 ro, .int .i64 lo]) (by simp (maxDischargeDepth := 8) [results, Try.results131, go_sem, Try.results131]) rfl ⟨?_, ?_⟩
  · rfl
  · (repeat (first | with_reducible exact Below.refl _ _ | with_reducible assumption | ((with_reducible refine Bw.set ?_ ?_); rotate_left; focus omega) | ((with_reducible refine Bw.al ?_ ?_); rotate_left; focus (first | omega | (simp; done) | (simp; omega))) | with_reducible refine Below.drew ?_ | with_reducible refine Bw.dr ?_ _))
set_option maxHeartbeats 1000000 in
theorem spec_Mirror (h l r lo ro : Int) (w : World) : Calls Try.prog 133 #[.agg #[.int .i64 h, .int .i64 l, .int .i64 r, .int .i64 lo, .int .i64 ro]] w fun e w' => e = .returned (.agg #[.int .i64 h, .int .i64 r, .int .i64 l, .int .i64 ro, .int .i64 lo]) ∧ Below w.heap.size w w' := by
  go_enter Try.func133, Try.ntmps133
  go_wp2
  refine bodyPost_ret (v := .agg #[.int .i64 h, .int .i64 r, .int .i64 l, .int .i64 ro, .int .i64 lo]) (by simp (maxDischargeDepth := 8) [results, Try.results133, go_sem, Try.results133]) rfl ⟨?_, ?_⟩
  · rfl
  · (repeat (first | with_reducible exact Below.refl _ _ | with_reducible assumption | ((with_reducible refine Bw.set ?_ ?_); rotate_left; focus omega) | ((with_reducible refine Bw.al ?_ ?_); rotate_left; focus (first | omega | (simp; done) | (simp; omega))) | with_reducible refine Below.drew ?_ | with_reducible refine Bw.dr ?_ _))
set_option maxHeartbeats 1000000 in
theorem impl_MostCrosses (n : Int) (w : World) : Calls Try.prog 68 #[.int .i64 n] w fun e w' => e = .returned (.tuple #[.int .i64 (crossF n).1, .int .i64 (crossF n).2]) ∧ w = w' := by
  rcases h1 : holesB n with _ | _
  · go_enter Try.func68, Try.ntmps68
    go_wp2_with fail
    refine (impl_isHoles _ _).mono ?_
    rintro e w1 ⟨rfl, rfl⟩
    go_wp2_with fail
    go_ret2
    exact ⟨by simp [crossF, h1], rfl⟩
  have hb := holes_bd h1
  go_enter Try.func68, Try.ntmps68
  go_wp2_with fail
  refine (impl_isHoles _ _).mono ?_
  rintro e w1 ⟨rfl, rfl⟩
  go_wp2_with fail
  refine (impl_mostCrosses _ h1 _).mono ?_
  rintro e w1 ⟨rfl, rfl⟩
  go_wp2_with fail
  go_ret2
  exact ⟨by simp [crossF, h1], rfl⟩
set_option maxHeartbeats 1000000 in
theorem impl_DishOf (h l r lo ro rh rd rf cr : Int) (w : World) : Calls Try.prog 62 #[.agg #[.int .i64 h, .int .i64 l, .int .i64 r, .int .i64 lo, .int .i64 ro, .int .i64 rh, .int .i64 rd, .int .i64 rf, .int .i64 cr]] w fun e w' => e = .returned (.tuple #[.int .i64 (dishF h l r lo ro rh rd rf cr).1, .int .i64 (dishF h l r lo ro rh rd rf cr).2]) ∧ Below w.heap.size w w' := by
  rcases h1 : wheelB h l r lo ro rh rd rf cr with _ | _
  · go_enter Try.func62, Try.ntmps62
    go_wp2_with fail
    refine (impl_IsWheel _ _ _ _ _ _ _ _ _ _).mono ?_
    rintro e w1 ⟨rfl, hb1⟩
    obtain ⟨c1, f1, zz, bb⟩ := kept1 hb1
    go_wp2_with fail
    go_ret2
    exact ⟨by simp [dishF, h1], by (repeat (first | with_reducible exact Below.refl _ _ | with_reducible assumption | ((with_reducible refine Bw.set ?_ ?_); rotate_left; focus omega) | ((with_reducible refine Bw.al ?_ ?_); rotate_left; focus (first | omega | (simp; done) | (simp; omega))) | with_reducible refine Below.drew ?_ | with_reducible refine Bw.dr ?_ _))⟩
  have q1 := (hubB_t (wheelB_t h1).1).2.2.2
  have q3 := (rimB_t (wheelB_t h1).2.1).2.2
  go_enter Try.func62, Try.ntmps62
  go_wp2_with fail
  refine (impl_IsWheel _ _ _ _ _ _ _ _ _ _).mono ?_
  rintro e w1 ⟨rfl, hb1⟩
  obtain ⟨c1, f1, zz, bb⟩ := kept1 hb1
  go_wp2_with fail
  go_ret2
  exact ⟨by simp [dishF, h1], by (repeat (first | with_reducible exact Below.refl _ _ | with_reducible assumption | ((with_reducible refine Bw.set ?_ ?_); rotate_left; focus omega) | ((with_reducible refine Bw.al ?_ ?_); rotate_left; focus (first | omega | (simp; done) | (simp; omega))) | with_reducible refine Below.drew ?_ | with_reducible refine Bw.dr ?_ _))⟩
set_option maxHeartbeats 2000000 in
theorem impl_MirrorHub (h l r lo ro : Int) (w : World) : Calls Try.prog 65 #[.agg #[.int .i64 h, .int .i64 l, .int .i64 r, .int .i64 lo, .int .i64 ro]] w fun e w' => e = .returned (.tuple #[.agg #[.int .i64 (mhF (hubB h l r lo ro) (h)), .int .i64 (mhF (hubB h l r lo ro) (r)), .int .i64 (mhF (hubB h l r lo ro) (l)), .int .i64 (mhF (hubB h l r lo ro) (ro)), .int .i64 (mhF (hubB h l r lo ro) (lo))], .int .i64 (mhC (hubB h l r lo ro))]) ∧ Below w.heap.size w w' := by
  rcases h1 : hubB h l r lo ro with _ | _
  · go_enter Try.func65, Try.ntmps65
    go_wp2_with fail
    refine (impl_IsHub _ _ _ _ _ _).mono ?_
    rintro e w1 ⟨rfl, hb1⟩
    obtain ⟨c1, f1, c2, f2, zz, bb⟩ := kept2 hb1
    go_wp2_with fail
    refine bodyPost_ret (v := .tuple #[.agg #[.int .i64 0, .int .i64 0, .int .i64 0, .int .i64 0, .int .i64 0], .int .i64 1]) (by simp (maxDischargeDepth := 8) [results, Try.results65, go_sem, c2]) rfl ⟨?_, ?_⟩
    · simp [mhF, mhC]
    · (repeat (first | with_reducible exact Below.refl _ _ | with_reducible assumption | ((with_reducible refine Bw.set ?_ ?_); rotate_left; focus omega) | ((with_reducible refine Bw.al ?_ ?_); rotate_left; focus (first | omega | (simp; done) | (simp; omega))) | with_reducible refine Below.drew ?_ | with_reducible refine Bw.dr ?_ _))
  · go_enter Try.func65, Try.ntmps65
    go_wp2_with fail
    refine (impl_IsHub _ _ _ _ _ _).mono ?_
    rintro e w1 ⟨rfl, hb1⟩
    obtain ⟨c1, f1, c2, f2, zz, bb⟩ := kept2 hb1
    go_wp2_with fail
    refine (impl_mirrored _ _ _ _ _ _).mono ?_
    rintro e w2 ⟨rfl, hb2⟩
    replace bb : Below w.heap.size w w2 := Below.trans (by (repeat (first | with_reducible exact Below.refl _ _ | with_reducible assumption | ((with_reducible refine Bw.set ?_ ?_); rotate_left; focus omega) | ((with_reducible refine Bw.al ?_ ?_); rotate_left; focus (first | omega | (simp; done) | (simp; omega))) | with_reducible refine Below.drew ?_ | with_reducible refine Bw.dr ?_ _))) (hb2.mono (by first | omega | (simp; done) | (simp; omega)))
    first | replace c2 := cell_kept hb2 (by first | omega | (simp; done) | (simp; omega)) c2 | replace c2 := cell_kept hb2 (by first | omega | (simp; done) | (simp; omega)) (cell_alloc c2 (by first | omega | (simp; done) | (simp; omega)) _)
    replace zc2 := lt_cell c2 (by simp)
    first | replace f2 := frz_kept hb2 (by first | omega | (simp; done) | (simp; omega)) f2 | replace f2 := frz_kept hb2 (by first | omega | (simp; done) | (simp; omega)) (frz_alloc f2 (by first | omega | (simp; done) | (simp; omega)) _)
    replace zz : w.heap.size + 2 ≤ w2.heap.size := by have := hb2.size; first | omega | (simp at this; omega)
    clear hb2
    go_wp2_with fail
    refine bodyPost_ret (v := .tuple #[.agg #[.int .i64 (h), .int .i64 (r), .int .i64 (l), .int .i64 (ro), .int .i64 (lo)], .int .i64 0]) (by simp (maxDischargeDepth := 8) [results, Try.results65, go_sem, c2]) rfl ⟨?_, ?_⟩
    · simp [mhF, mhC]
    · (repeat (first | with_reducible exact Below.refl _ _ | with_reducible assumption | ((with_reducible refine Bw.set ?_ ?_); rotate_left; focus omega) | ((with_reducible refine Bw.al ?_ ?_); rotate_left; focus (first | omega | (simp; done) | (simp; omega))) | with_reducible refine Below.drew ?_ | with_reducible refine Bw.dr ?_ _))
set_option maxHeartbeats 4000000 in
theorem impl_MirrorWheel (h l r lo ro rh rd rf cr : Int) (w : World) : Calls Try.prog 60 #[.agg #[.int .i64 h, .int .i64 l, .int .i64 r, .int .i64 lo, .int .i64 ro, .int .i64 rh, .int .i64 rd, .int .i64 rf, .int .i64 cr]] w fun e w' => e = .returned (.tuple #[.agg #[.int .i64 (mhF (wheelB h l r lo ro rh rd rf cr) (h)), .int .i64 (mhF (wheelB h l r lo ro rh rd rf cr) (r)), .int .i64 (mhF (wheelB h l r lo ro rh rd rf cr) (l)), .int .i64 (mhF (wheelB h l r lo ro rh rd rf cr) (ro)), .int .i64 (mhF (wheelB h l r lo ro rh rd rf cr) (lo)), .int .i64 (mhF (wheelB h l r lo ro rh rd rf cr) (rh)), .int .i64 (mhF (wheelB h l r lo ro rh rd rf cr) (rd)), .int .i64 (mhF (wheelB h l r lo ro rh rd rf cr) (-rf)), .int .i64 (mhF (wheelB h l r lo ro rh rd rf cr) (cr))], .int .i64 (mhC (wheelB h l r lo ro rh rd rf cr))]) ∧ Below w.heap.size w w' := by
  rcases h1 : wheelB h l r lo ro rh rd rf cr with _ | _
  · go_enter Try.func60, Try.ntmps60
    go_wp2_with fail
    refine (impl_IsWheel _ _ _ _ _ _ _ _ _ _).mono ?_
    rintro e w1 ⟨rfl, hb1⟩
    obtain ⟨c1, f1, c2, f2, zz, bb⟩ := kept2 hb1
    go_wp2_with fail
    refine bodyPost_ret (v := .tuple #[.agg #[.int .i64 0, .int .i64 0, .int .i64 0, .int .i64 0, .int .i64 0, .int .i64 0, .int .i64 0, .int .i64 0, .int .i64 0], .int .i64 1]) (by simp (maxDischargeDepth := 8) [results, Try.results60, go_sem, c2]) rfl ⟨?_, ?_⟩
    · simp [mhF, mhC]
    · (repeat (first | with_reducible exact Below.refl _ _ | with_reducible assumption | ((with_reducible refine Bw.set ?_ ?_); rotate_left; focus omega) | ((with_reducible refine Bw.al ?_ ?_); rotate_left; focus (first | omega | (simp; done) | (simp; omega))) | with_reducible refine Below.drew ?_ | with_reducible refine Bw.dr ?_ _))
  · have q3 := (rimB_t (wheelB_t h1).2.1).2.2
    go_enter Try.func60, Try.ntmps60
    go_wp2_with fail
    refine (impl_IsWheel _ _ _ _ _ _ _ _ _ _).mono ?_
    rintro e w1 ⟨rfl, hb1⟩
    obtain ⟨c1, f1, c2, f2, zz, bb⟩ := kept2 hb1
    go_wp2_with fail
    refine (impl_mirrored _ _ _ _ _ _).mono ?_
    rintro e w2 ⟨rfl, hb2⟩
    replace bb : Below w.heap.size w w2 := Below.trans (by (repeat (first | with_reducible exact Below.refl _ _ | with_reducible assumption | ((with_reducible refine Bw.set ?_ ?_); rotate_left; focus omega) | ((with_reducible refine Bw.al ?_ ?_); rotate_left; focus (first | omega | (simp; done) | (simp; omega))) | with_reducible refine Below.drew ?_ | with_reducible refine Bw.dr ?_ _))) (hb2.mono (by first | omega | (simp; done) | (simp; omega)))
    first | replace c1 := cell_kept hb2 (by first | omega | (simp; done) | (simp; omega)) c1 | replace c1 := cell_kept hb2 (by first | omega | (simp; done) | (simp; omega)) (cell_alloc c1 (by first | omega | (simp; done) | (simp; omega)) _)
    replace zc1 := lt_cell c1 (by simp)
    first | replace c2 := cell_kept hb2 (by first | omega | (simp; done) | (simp; omega)) c2 | replace c2 := cell_kept hb2 (by first | omega | (simp; done) | (simp; omega)) (cell_alloc c2 (by first | omega | (simp; done) | (simp; omega)) _)
    replace zc2 := lt_cell c2 (by simp)
    first | replace f1 := frz_kept hb2 (by first | omega | (simp; done) | (simp; omega)) f1 | replace f1 := frz_kept hb2 (by first | omega | (simp; done) | (simp; omega)) (frz_alloc f1 (by first | omega | (simp; done) | (simp; omega)) _)
    first | replace f2 := frz_kept hb2 (by first | omega | (simp; done) | (simp; omega)) f2 | replace f2 := frz_kept hb2 (by first | omega | (simp; done) | (simp; omega)) (frz_alloc f2 (by first | omega | (simp; done) | (simp; omega)) _)
    replace zz : w.heap.size + 2 ≤ w2.heap.size := by have := hb2.size; first | omega | (simp at this; omega)
    clear hb2
    go_upto_region 4 with fail
    go_cut [] (fun wx => (∀ i, wx.cell? ⟨w.heap.size, i, none⟩ = #[Value.int .i64 h, Value.int .i64 r, Value.int .i64 l, Value.int .i64 ro, Value.int .i64 lo, Value.int .i64 rh, Value.int .i64 rd, Value.int .i64 (-rf), Value.int .i64 cr][i]?) ∧ (∀ i, wx.cell? ⟨w.heap.size + 1, i, none⟩ = #[Value.int .i64 0, Value.int .i64 0, Value.int .i64 0, Value.int .i64 0, Value.int .i64 0, Value.int .i64 0, Value.int .i64 0, Value.int .i64 0, Value.int .i64 0][i]?) ∧ (∀ i, wx.frozen? ⟨w.heap.size + 1, i, none⟩ = false) ∧ Below w.heap.size w wx ∧ w.heap.size + 2 ≤ wx.heap.size)
    case first =>
      have e3 := (cell_put (cell_put (cell_put (cell_put (cell_put c1 0 (.int .i64 h) (by simp)) 1 (.int .i64 r) (by simp)) 2 (.int .i64 l) (by simp)) 3 (.int .i64 ro) (by simp)) 4 (.int .i64 lo) (by simp))
      have e2 := (cell_far (g' := w.heap.size) (cell_far (g' := w.heap.size) (cell_far (g' := w.heap.size) (cell_far (g' := w.heap.size) (cell_far (g' := w.heap.size) c2 (by omega) 0 (.int .i64 h)) (by omega) 1 (.int .i64 r)) (by omega) 2 (.int .i64 l)) (by omega) 3 (.int .i64 ro)) (by omega) 4 (.int .i64 lo))
      have g1 := (frz_put (g' := w.heap.size) (frz_put (g' := w.heap.size) (frz_put (g' := w.heap.size) (frz_put (g' := w.heap.size) (frz_put (g' := w.heap.size) f1 0 (.int .i64 h)) 1 (.int .i64 r)) 2 (.int .i64 l)) 3 (.int .i64 ro)) 4 (.int .i64 lo))
      have g2 := (frz_put (g' := w.heap.size) (frz_put (g' := w.heap.size) (frz_put (g' := w.heap.size) (frz_put (g' := w.heap.size) (frz_put (g' := w.heap.size) f2 0 (.int .i64 h)) 1 (.int .i64 r)) 2 (.int .i64 l)) 3 (.int .i64 ro)) 4 (.int .i64 lo))
      go_wp2_with fail
      go_meet
      exact ⟨(by have k := cell_put e3 7 (.int .i64 (-rf)) (by simp); simpa using k), cell_far (g' := w.heap.size) e2 (by omega) 7 (.int .i64 (-rf)), frz_put (g' := w.heap.size) g2 7 (.int .i64 (-rf)), by (repeat (first | with_reducible exact Below.refl _ _ | with_reducible assumption | ((with_reducible refine Bw.set ?_ ?_); rotate_left; focus omega) | ((with_reducible refine Bw.al ?_ ?_); rotate_left; focus (first | omega | (simp; done) | (simp; omega))) | with_reducible refine Below.drew ?_ | with_reducible refine Bw.dr ?_ _)), by simp; omega⟩
    case rest =>
    obtain ⟨d1, d2, g2, bb, zz⟩ := hcut
    rename_i wc'
    go_wp2_with fail
    refine post_cell2 (v := .agg #[.int .i64 (h), .int .i64 (r), .int .i64 (l), .int .i64 (ro), .int .i64 (lo), .int .i64 (rh), .int .i64 (rd), .int .i64 (-rf), .int .i64 (cr)]) Try.results60 rfl rfl (load9 (by have k := (cell_put (cell_put (cell_put (cell_put (cell_put (cell_put (cell_put (cell_put (cell_put d2 0 (.int .i64 h) (by simp)) 1 (.int .i64 r) (by simp)) 2 (.int .i64 l) (by simp)) 3 (.int .i64 ro) (by simp)) 4 (.int .i64 lo) (by simp)) 5 (.int .i64 rh) (by simp)) 6 (.int .i64 rd) (by simp)) 7 (.int .i64 (-rf)) (by simp)) 8 (.int .i64 cr) (by simp)); simpa using k)) ⟨?_, ?_⟩
    · simp [mhF, mhC]
    · (repeat (first | with_reducible exact Below.refl _ _ | with_reducible assumption | ((with_reducible refine Bw.set ?_ ?_); rotate_left; focus omega) | ((with_reducible refine Bw.al ?_ ?_); rotate_left; focus (first | omega | (simp; done) | (simp; omega))) | with_reducible refine Below.drew ?_ | with_reducible refine Bw.dr ?_ _))
set_option maxHeartbeats 1000000 in
theorem spec_MostCrosses (n : Int) (w : World) : Calls Try.prog 69 #[.int .i64 n] w fun e w' => e = .returned (.tuple #[.int .i64 (crossF n).1, .int .i64 (crossF n).2]) ∧ Below w.heap.size w w' := by
  rcases h1 : holesB n with _ | _
  · go_enter Try.func69, Try.ntmps69
    go_wp2_with fail
    refine (spec_Holes _ _).mono ?_
    rintro e w1 ⟨rfl, hb1⟩
    go_wp2_with fail
    go_ret2
    exact ⟨by simp [crossF, h1], hb1⟩
  have hb := holes_bd h1
  go_enter Try.func69, Try.ntmps69
  go_wp2_with fail
  refine (spec_Holes _ _).mono ?_
  rintro e w1 ⟨rfl, hb1⟩
  go_wp2_with fail
  go_ret2
  exact ⟨by simp [crossF, h1], hb1⟩
set_option maxHeartbeats 1000000 in
theorem spec_DishOf (h l r lo ro rh rd rf cr : Int) (w : World) : Calls Try.prog 63 #[.agg #[.int .i64 h, .int .i64 l, .int .i64 r, .int .i64 lo, .int .i64 ro, .int .i64 rh, .int .i64 rd, .int .i64 rf, .int .i64 cr]] w fun e w' => e = .returned (.tuple #[.int .i64 (dishF h l r lo ro rh rd rf cr).1, .int .i64 (dishF h l r lo ro rh rd rf cr).2]) ∧ Below w.heap.size w w' := by
  rcases h1 : wheelB h l r lo ro rh rd rf cr with _ | _
  · go_enter Try.func63, Try.ntmps63
    go_wp2_with fail
    refine (spec_IsWheel _ _ _ _ _ _ _ _ _ _).mono ?_
    rintro e w1 ⟨rfl, hb1⟩
    obtain ⟨c1, f1, zz, bb⟩ := kept1 hb1
    go_wp2_with fail
    go_ret2
    exact ⟨by simp [dishF, h1], by (repeat (first | with_reducible exact Below.refl _ _ | with_reducible assumption | ((with_reducible refine Bw.set ?_ ?_); rotate_left; focus omega) | ((with_reducible refine Bw.al ?_ ?_); rotate_left; focus (first | omega | (simp; done) | (simp; omega))) | with_reducible refine Below.drew ?_ | with_reducible refine Bw.dr ?_ _))⟩
  have q1 := (hubB_t (wheelB_t h1).1).2.2.2
  have q3 := (rimB_t (wheelB_t h1).2.1).2.2
  go_enter Try.func63, Try.ntmps63
  go_wp2_with fail
  refine (spec_IsWheel _ _ _ _ _ _ _ _ _ _).mono ?_
  rintro e w1 ⟨rfl, hb1⟩
  obtain ⟨c1, f1, zz, bb⟩ := kept1 hb1
  go_wp2_with fail
  go_ret2
  exact ⟨by simp [dishF, h1], by (repeat (first | with_reducible exact Below.refl _ _ | with_reducible assumption | ((with_reducible refine Bw.set ?_ ?_); rotate_left; focus omega) | ((with_reducible refine Bw.al ?_ ?_); rotate_left; focus (first | omega | (simp; done) | (simp; omega))) | with_reducible refine Below.drew ?_ | with_reducible refine Bw.dr ?_ _))⟩
set_option maxHeartbeats 2000000 in
theorem spec_MirrorHub (h l r lo ro : Int) (w : World) : Calls Try.prog 66 #[.agg #[.int .i64 h, .int .i64 l, .int .i64 r, .int .i64 lo, .int .i64 ro]] w fun e w' => e = .returned (.tuple #[.agg #[.int .i64 (mhF (hubB h l r lo ro) (h)), .int .i64 (mhF (hubB h l r lo ro) (r)), .int .i64 (mhF (hubB h l r lo ro) (l)), .int .i64 (mhF (hubB h l r lo ro) (ro)), .int .i64 (mhF (hubB h l r lo ro) (lo))], .int .i64 (mhC (hubB h l r lo ro))]) ∧ Below w.heap.size w w' := by
  rcases h1 : hubB h l r lo ro with _ | _
  · go_enter Try.func66, Try.ntmps66
    go_wp2_with fail
    refine (spec_IsHub _ _ _ _ _ _).mono ?_
    rintro e w1 ⟨rfl, hb1⟩
    obtain ⟨c1, f1, c2, f2, zz, bb⟩ := kept2 hb1
    go_wp2_with fail
    refine bodyPost_ret (v := .tuple #[.agg #[.int .i64 0, .int .i64 0, .int .i64 0, .int .i64 0, .int .i64 0], .int .i64 1]) (by simp (maxDischargeDepth := 8) [results, Try.results66, go_sem, c2]) rfl ⟨?_, ?_⟩
    · simp [mhF, mhC]
    · (repeat (first | with_reducible exact Below.refl _ _ | with_reducible assumption | ((with_reducible refine Bw.set ?_ ?_); rotate_left; focus omega) | ((with_reducible refine Bw.al ?_ ?_); rotate_left; focus (first | omega | (simp; done) | (simp; omega))) | with_reducible refine Below.drew ?_ | with_reducible refine Bw.dr ?_ _))
  · go_enter Try.func66, Try.ntmps66
    go_wp2_with fail
    refine (spec_IsHub _ _ _ _ _ _).mono ?_
    rintro e w1 ⟨rfl, hb1⟩
    obtain ⟨c1, f1, c2, f2, zz, bb⟩ := kept2 hb1
    go_wp2_with fail
    refine (spec_Mirror _ _ _ _ _ _).mono ?_
    rintro e w2 ⟨rfl, hb2⟩
    replace bb : Below w.heap.size w w2 := Below.trans (by (repeat (first | with_reducible exact Below.refl _ _ | with_reducible assumption | ((with_reducible refine Bw.set ?_ ?_); rotate_left; focus omega) | ((with_reducible refine Bw.al ?_ ?_); rotate_left; focus (first | omega | (simp; done) | (simp; omega))) | with_reducible refine Below.drew ?_ | with_reducible refine Bw.dr ?_ _))) (hb2.mono (by first | omega | (simp; done) | (simp; omega)))
    first | replace c2 := cell_kept hb2 (by first | omega | (simp; done) | (simp; omega)) c2 | replace c2 := cell_kept hb2 (by first | omega | (simp; done) | (simp; omega)) (cell_alloc c2 (by first | omega | (simp; done) | (simp; omega)) _)
    replace zc2 := lt_cell c2 (by simp)
    first | replace f2 := frz_kept hb2 (by first | omega | (simp; done) | (simp; omega)) f2 | replace f2 := frz_kept hb2 (by first | omega | (simp; done) | (simp; omega)) (frz_alloc f2 (by first | omega | (simp; done) | (simp; omega)) _)
    replace zz : w.heap.size + 2 ≤ w2.heap.size := by have := hb2.size; first | omega | (simp at this; omega)
    clear hb2
    go_wp2_with fail
    refine bodyPost_ret (v := .tuple #[.agg #[.int .i64 (h), .int .i64 (r), .int .i64 (l), .int .i64 (ro), .int .i64 (lo)], .int .i64 0]) (by simp (maxDischargeDepth := 8) [results, Try.results66, go_sem, c2]) rfl ⟨?_, ?_⟩
    · simp [mhF, mhC]
    · (repeat (first | with_reducible exact Below.refl _ _ | with_reducible assumption | ((with_reducible refine Bw.set ?_ ?_); rotate_left; focus omega) | ((with_reducible refine Bw.al ?_ ?_); rotate_left; focus (first | omega | (simp; done) | (simp; omega))) | with_reducible refine Below.drew ?_ | with_reducible refine Bw.dr ?_ _))
set_option maxHeartbeats 4000000 in
theorem spec_MirrorWheel (h l r lo ro rh rd rf cr : Int) (w : World) : Calls Try.prog 61 #[.agg #[.int .i64 h, .int .i64 l, .int .i64 r, .int .i64 lo, .int .i64 ro, .int .i64 rh, .int .i64 rd, .int .i64 rf, .int .i64 cr]] w fun e w' => e = .returned (.tuple #[.agg #[.int .i64 (mhF (wheelB h l r lo ro rh rd rf cr) (h)), .int .i64 (mhF (wheelB h l r lo ro rh rd rf cr) (r)), .int .i64 (mhF (wheelB h l r lo ro rh rd rf cr) (l)), .int .i64 (mhF (wheelB h l r lo ro rh rd rf cr) (ro)), .int .i64 (mhF (wheelB h l r lo ro rh rd rf cr) (lo)), .int .i64 (mhF (wheelB h l r lo ro rh rd rf cr) (rh)), .int .i64 (mhF (wheelB h l r lo ro rh rd rf cr) (rd)), .int .i64 (mhF (wheelB h l r lo ro rh rd rf cr) (-rf)), .int .i64 (mhF (wheelB h l r lo ro rh rd rf cr) (cr))], .int .i64 (mhC (wheelB h l r lo ro rh rd rf cr))]) ∧ Below w.heap.size w w' := by
  rcases h1 : wheelB h l r lo ro rh rd rf cr with _ | _
  · go_enter Try.func61, Try.ntmps61
    go_wp2_with fail
    refine (spec_IsWheel _ _ _ _ _ _ _ _ _ _).mono ?_
    rintro e w1 ⟨rfl, hb1⟩
    obtain ⟨c1, f1, c2, f2, zz, bb⟩ := kept2 hb1
    go_wp2_with fail
    refine bodyPost_ret (v := .tuple #[.agg #[.int .i64 0, .int .i64 0, .int .i64 0, .int .i64 0, .int .i64 0, .int .i64 0, .int .i64 0, .int .i64 0, .int .i64 0], .int .i64 1]) (by simp (maxDischargeDepth := 8) [results, Try.results61, go_sem, c2]) rfl ⟨?_, ?_⟩
    · simp [mhF, mhC]
    · (repeat (first | with_reducible exact Below.refl _ _ | with_reducible assumption | ((with_reducible refine Bw.set ?_ ?_); rotate_left; focus omega) | ((with_reducible refine Bw.al ?_ ?_); rotate_left; focus (first | omega | (simp; done) | (simp; omega))) | with_reducible refine Below.drew ?_ | with_reducible refine Bw.dr ?_ _))
  · have q3 := (rimB_t (wheelB_t h1).2.1).2.2
    go_enter Try.func61, Try.ntmps61
    go_wp2_with fail
    refine (spec_IsWheel _ _ _ _ _ _ _ _ _ _).mono ?_
    rintro e w1 ⟨rfl, hb1⟩
    obtain ⟨c1, f1, c2, f2, zz, bb⟩ := kept2 hb1
    go_wp2_with fail
    refine (spec_Mirror _ _ _ _ _ _).mono ?_
    rintro e w2 ⟨rfl, hb2⟩
    replace bb : Below w.heap.size w w2 := Below.trans (by (repeat (first | with_reducible exact Below.refl _ _ | with_reducible assumption | ((with_reducible refine Bw.set ?_ ?_); rotate_left; focus omega) | ((with_reducible refine Bw.al ?_ ?_); rotate_left; focus (first | omega | (simp; done) | (simp; omega))) | with_reducible refine Below.drew ?_ | with_reducible refine Bw.dr ?_ _))) (hb2.mono (by first | omega | (simp; done) | (simp; omega)))
    first | replace c1 := cell_kept hb2 (by first | omega | (simp; done) | (simp; omega)) c1 | replace c1 := cell_kept hb2 (by first | omega | (simp; done) | (simp; omega)) (cell_alloc c1 (by first | omega | (simp; done) | (simp; omega)) _)
    replace zc1 := lt_cell c1 (by simp)
    first | replace c2 := cell_kept hb2 (by first | omega | (simp; done) | (simp; omega)) c2 | replace c2 := cell_kept hb2 (by first | omega | (simp; done) | (simp; omega)) (cell_alloc c2 (by first | omega | (simp; done) | (simp; omega)) _)
    replace zc2 := lt_cell c2 (by simp)
    first | replace f1 := frz_kept hb2 (by first | omega | (simp; done) | (simp; omega)) f1 | replace f1 := frz_kept hb2 (by first | omega | (simp; done) | (simp; omega)) (frz_alloc f1 (by first | omega | (simp; done) | (simp; omega)) _)
    first | replace f2 := frz_kept hb2 (by first | omega | (simp; done) | (simp; omega)) f2 | replace f2 := frz_kept hb2 (by first | omega | (simp; done) | (simp; omega)) (frz_alloc f2 (by first | omega | (simp; done) | (simp; omega)) _)
    replace zz : w.heap.size + 2 ≤ w2.heap.size := by have := hb2.size; first | omega | (simp at this; omega)
    clear hb2
    go_upto_region 4 with fail
    go_cut [] (fun wx => (∀ i, wx.cell? ⟨w.heap.size, i, none⟩ = #[Value.int .i64 h, Value.int .i64 r, Value.int .i64 l, Value.int .i64 ro, Value.int .i64 lo, Value.int .i64 rh, Value.int .i64 rd, Value.int .i64 (-rf), Value.int .i64 cr][i]?) ∧ (∀ i, wx.cell? ⟨w.heap.size + 1, i, none⟩ = #[Value.int .i64 0, Value.int .i64 0, Value.int .i64 0, Value.int .i64 0, Value.int .i64 0, Value.int .i64 0, Value.int .i64 0, Value.int .i64 0, Value.int .i64 0][i]?) ∧ (∀ i, wx.frozen? ⟨w.heap.size + 1, i, none⟩ = false) ∧ Below w.heap.size w wx ∧ w.heap.size + 2 ≤ wx.heap.size)
    case first =>
      have e3 := (cell_put (cell_put (cell_put (cell_put (cell_put c1 0 (.int .i64 h) (by simp)) 1 (.int .i64 r) (by simp)) 2 (.int .i64 l) (by simp)) 3 (.int .i64 ro) (by simp)) 4 (.int .i64 lo) (by simp))
      have e2 := (cell_far (g' := w.heap.size) (cell_far (g' := w.heap.size) (cell_far (g' := w.heap.size) (cell_far (g' := w.heap.size) (cell_far (g' := w.heap.size) c2 (by omega) 0 (.int .i64 h)) (by omega) 1 (.int .i64 r)) (by omega) 2 (.int .i64 l)) (by omega) 3 (.int .i64 ro)) (by omega) 4 (.int .i64 lo))
      have g1 := (frz_put (g' := w.heap.size) (frz_put (g' := w.heap.size) (frz_put (g' := w.heap.size) (frz_put (g' := w.heap.size) (frz_put (g' := w.heap.size) f1 0 (.int .i64 h)) 1 (.int .i64 r)) 2 (.int .i64 l)) 3 (.int .i64 ro)) 4 (.int .i64 lo))
      have g2 := (frz_put (g' := w.heap.size) (frz_put (g' := w.heap.size) (frz_put (g' := w.heap.size) (frz_put (g' := w.heap.size) (frz_put (g' := w.heap.size) f2 0 (.int .i64 h)) 1 (.int .i64 r)) 2 (.int .i64 l)) 3 (.int .i64 ro)) 4 (.int .i64 lo))
      go_wp2_with fail
      go_meet
      exact ⟨(by have k := cell_put e3 7 (.int .i64 (-rf)) (by simp); simpa using k), cell_far (g' := w.heap.size) e2 (by omega) 7 (.int .i64 (-rf)), frz_put (g' := w.heap.size) g2 7 (.int .i64 (-rf)), by (repeat (first | with_reducible exact Below.refl _ _ | with_reducible assumption | ((with_reducible refine Bw.set ?_ ?_); rotate_left; focus omega) | ((with_reducible refine Bw.al ?_ ?_); rotate_left; focus (first | omega | (simp; done) | (simp; omega))) | with_reducible refine Below.drew ?_ | with_reducible refine Bw.dr ?_ _)), by simp; omega⟩
    case rest =>
    obtain ⟨d1, d2, g2, bb, zz⟩ := hcut
    rename_i wc'
    go_wp2_with fail
    refine post_cell2 (v := .agg #[.int .i64 (h), .int .i64 (r), .int .i64 (l), .int .i64 (ro), .int .i64 (lo), .int .i64 (rh), .int .i64 (rd), .int .i64 (-rf), .int .i64 (cr)]) Try.results61 rfl rfl (load9 (by have k := (cell_put (cell_put (cell_put (cell_put (cell_put (cell_put (cell_put (cell_put (cell_put d2 0 (.int .i64 h) (by simp)) 1 (.int .i64 r) (by simp)) 2 (.int .i64 l) (by simp)) 3 (.int .i64 ro) (by simp)) 4 (.int .i64 lo) (by simp)) 5 (.int .i64 rh) (by simp)) 6 (.int .i64 rd) (by simp)) 7 (.int .i64 (-rf)) (by simp)) 8 (.int .i64 cr) (by simp)); simpa using k)) ⟨?_, ?_⟩
    · simp [mhF, mhC]
    · (repeat (first | with_reducible exact Below.refl _ _ | with_reducible assumption | ((with_reducible refine Bw.set ?_ ?_); rotate_left; focus omega) | ((with_reducible refine Bw.al ?_ ?_); rotate_left; focus (first | omega | (simp; done) | (simp; omega))) | with_reducible refine Below.drew ?_ | with_reducible refine Bw.dr ?_ _))

end Go.Proofs.Ytpejbmfapdocaaa
