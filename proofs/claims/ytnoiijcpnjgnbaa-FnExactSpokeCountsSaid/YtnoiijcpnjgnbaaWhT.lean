/- The laws' own helpers on hubs, rims and wheels. No condition. -/
import Derived.Test.YtnoiijcpnjgnbaaBase
namespace Go.Proofs.Ytnoiijcpnjgnbaa
open Go.RowKit

set_option maxHeartbeats 2000000 in
theorem toHub_any (h l r lo ro : Int) (w : World) : Calls Try.prog 42 #[.agg #[.int .i64 h, .int .i64 l, .int .i64 r, .int .i64 lo, .int .i64 ro]] w fun e w' => e = .returned (.agg #[.int .i64 h, .int .i64 l, .int .i64 r, .int .i64 lo, .int .i64 ro]) ∧ Below w.heap.size w w' := by
  go_enter Try.func42, Try.ntmps42
  go_wp2
  refine bodyPost_ret (v := .agg #[.int .i64 h, .int .i64 l, .int .i64 r, .int .i64 lo, .int .i64 ro]) (by simp (maxDischargeDepth := 8) [results, Try.results42, go_sem, Try.results42]) rfl ⟨?_, ?_⟩
  · rfl
  · (repeat (first | with_reducible exact Below.refl _ _ | with_reducible assumption | ((with_reducible refine Bw.set ?_ ?_); rotate_left; focus omega) | ((with_reducible refine Bw.al ?_ ?_); rotate_left; focus (first | omega | (simp; done) | (simp; omega))) | with_reducible refine Below.drew ?_ | with_reducible refine Bw.dr ?_ _))
set_option maxHeartbeats 2000000 in
theorem toRim_any (rh rd rf : Int) (w : World) : Calls Try.prog 43 #[.agg #[.int .i64 rh, .int .i64 rd, .int .i64 rf]] w fun e w' => e = .returned (.agg #[.int .i64 rh, .int .i64 rd, .int .i64 rf]) ∧ Below w.heap.size w w' := by
  go_enter Try.func43, Try.ntmps43
  go_wp2
  refine bodyPost_ret (v := .agg #[.int .i64 rh, .int .i64 rd, .int .i64 rf]) (by simp (maxDischargeDepth := 8) [results, Try.results43, go_sem, Try.results43]) rfl ⟨?_, ?_⟩
  · rfl
  · (repeat (first | with_reducible exact Below.refl _ _ | with_reducible assumption | ((with_reducible refine Bw.set ?_ ?_); rotate_left; focus omega) | ((with_reducible refine Bw.al ?_ ?_); rotate_left; focus (first | omega | (simp; done) | (simp; omega))) | with_reducible refine Below.drew ?_ | with_reducible refine Bw.dr ?_ _))
theorem load9 {w : World} {g : Nat} {v0 v1 v2 v3 v4 v5 v6 v7 v8 : Value} (h : ∀ i, w.cell? ⟨g, i, none⟩ = #[v0, v1, v2, v3, v4, v5, v6, v7, v8][i]?) : (loadVar 39 ⟨g, 0, none⟩).run Try.prog w = .ok (.agg #[v0, v1, v2, v3, v4, v5, v6, v7, v8]) w := by
  simp [go_sem, h]
set_option maxHeartbeats 4000000 in
theorem toWheel_any (h l r lo ro rh rd rf cr : Int) (w : World) : Calls Try.prog 16 #[.agg #[.int .i64 h, .int .i64 l, .int .i64 r, .int .i64 lo, .int .i64 ro, .int .i64 rh, .int .i64 rd, .int .i64 rf, .int .i64 cr]] w fun e w' => e = .returned (.agg #[.int .i64 h, .int .i64 l, .int .i64 r, .int .i64 lo, .int .i64 ro, .int .i64 rh, .int .i64 rd, .int .i64 rf, .int .i64 cr]) ∧ Below w.heap.size w w' := by
  go_enter Try.func16, Try.ntmps16
  go_upto_region 2 with fail
  have k := kept3 (Below.refl (((w.alloc (.cells #[Value.int .i64 h, Value.int .i64 l, Value.int .i64 r, Value.int .i64 lo, Value.int .i64 ro, Value.int .i64 rh, Value.int .i64 rd, Value.int .i64 rf, Value.int .i64 cr] 33)).alloc (.cells #[Value.int .i64 0, Value.int .i64 0, Value.int .i64 0, Value.int .i64 0, Value.int .i64 0, Value.int .i64 0, Value.int .i64 0, Value.int .i64 0, Value.int .i64 0] 39)).alloc (.cells #[Value.int .i64 0, Value.int .i64 0, Value.int .i64 0, Value.int .i64 0, Value.int .i64 0, Value.int .i64 0, Value.int .i64 0, Value.int .i64 0, Value.int .i64 0] 39)).heap.size (((w.alloc (.cells #[Value.int .i64 h, Value.int .i64 l, Value.int .i64 r, Value.int .i64 lo, Value.int .i64 ro, Value.int .i64 rh, Value.int .i64 rd, Value.int .i64 rf, Value.int .i64 cr] 33)).alloc (.cells #[Value.int .i64 0, Value.int .i64 0, Value.int .i64 0, Value.int .i64 0, Value.int .i64 0, Value.int .i64 0, Value.int .i64 0, Value.int .i64 0, Value.int .i64 0] 39)).alloc (.cells #[Value.int .i64 0, Value.int .i64 0, Value.int .i64 0, Value.int .i64 0, Value.int .i64 0, Value.int .i64 0, Value.int .i64 0, Value.int .i64 0, Value.int .i64 0] 39)))
  generalize ((w.alloc (.cells #[Value.int .i64 h, Value.int .i64 l, Value.int .i64 r, Value.int .i64 lo, Value.int .i64 ro, Value.int .i64 rh, Value.int .i64 rd, Value.int .i64 rf, Value.int .i64 cr] 33)).alloc (.cells #[Value.int .i64 0, Value.int .i64 0, Value.int .i64 0, Value.int .i64 0, Value.int .i64 0, Value.int .i64 0, Value.int .i64 0, Value.int .i64 0, Value.int .i64 0] 39)).alloc (.cells #[Value.int .i64 0, Value.int .i64 0, Value.int .i64 0, Value.int .i64 0, Value.int .i64 0, Value.int .i64 0, Value.int .i64 0, Value.int .i64 0, Value.int .i64 0] 39) = X at *
  obtain ⟨c1, f1, c2, f2, c3, f3, zz, bb⟩ := k
  clear f1
  go_upto_region 2 with fail
  go_cut [] (fun wx => (∀ i, wx.cell? ⟨w.heap.size, i, none⟩ = #[Value.int .i64 h, Value.int .i64 l, Value.int .i64 r, Value.int .i64 lo, Value.int .i64 ro, Value.int .i64 rh, Value.int .i64 rd, Value.int .i64 rf, Value.int .i64 cr][i]?) ∧ (∀ i, wx.cell? ⟨w.heap.size + 1, i, none⟩ = #[Value.int .i64 0, Value.int .i64 0, Value.int .i64 0, Value.int .i64 0, Value.int .i64 0, Value.int .i64 0, Value.int .i64 0, Value.int .i64 0, Value.int .i64 0][i]?) ∧ (∀ i, wx.cell? ⟨w.heap.size + 1 + 1, i, none⟩ = #[Value.int .i64 h, Value.int .i64 l, Value.int .i64 r, Value.int .i64 lo, Value.int .i64 ro, Value.int .i64 0, Value.int .i64 0, Value.int .i64 0, Value.int .i64 0][i]?) ∧ (∀ i, wx.frozen? ⟨w.heap.size + 1, i, none⟩ = false) ∧ (∀ i, wx.frozen? ⟨w.heap.size + 1 + 1, i, none⟩ = false) ∧ Below w.heap.size w wx ∧ w.heap.size + 3 ≤ wx.heap.size)
  case first =>
    go_wp2_with fail
    refine (toHub_any _ _ _ _ _ _).mono ?_
    rintro e w1 ⟨rfl, hb1⟩
    have z1 := hb1.size
    have b1 := bb.trans (hb1.mono (by omega))
    replace c1 := cell_kept hb1 (by omega) c1
    replace c2 := cell_kept hb1 (by omega) c2
    replace c3 := cell_kept hb1 (by omega) c3
    replace f2 := frz_kept hb1 (by omega) f2
    replace f3 := frz_kept hb1 (by omega) f3
    go_wp2_with fail
    go_meet
    exact ⟨(cell_far (g' := w.heap.size + 1 + 1) (cell_far (g' := w.heap.size + 1 + 1) (cell_far (g' := w.heap.size + 1 + 1) (cell_far (g' := w.heap.size + 1 + 1) (cell_far (g' := w.heap.size + 1 + 1) c1 (by omega) 0 (.int .i64 h)) (by omega) 1 (.int .i64 l)) (by omega) 2 (.int .i64 r)) (by omega) 3 (.int .i64 lo)) (by omega) 4 (.int .i64 ro)), (cell_far (g' := w.heap.size + 1 + 1) (cell_far (g' := w.heap.size + 1 + 1) (cell_far (g' := w.heap.size + 1 + 1) (cell_far (g' := w.heap.size + 1 + 1) (cell_far (g' := w.heap.size + 1 + 1) c2 (by omega) 0 (.int .i64 h)) (by omega) 1 (.int .i64 l)) (by omega) 2 (.int .i64 r)) (by omega) 3 (.int .i64 lo)) (by omega) 4 (.int .i64 ro)), (by have k := (cell_put (cell_put (cell_put (cell_put (cell_put c3 0 (.int .i64 h) (by simp)) 1 (.int .i64 l) (by simp)) 2 (.int .i64 r) (by simp)) 3 (.int .i64 lo) (by simp)) 4 (.int .i64 ro) (by simp)); simpa using k), (frz_put (g' := w.heap.size + 1 + 1) (frz_put (g' := w.heap.size + 1 + 1) (frz_put (g' := w.heap.size + 1 + 1) (frz_put (g' := w.heap.size + 1 + 1) (frz_put (g' := w.heap.size + 1 + 1) f2 0 (.int .i64 h)) 1 (.int .i64 l)) 2 (.int .i64 r)) 3 (.int .i64 lo)) 4 (.int .i64 ro)), (frz_put (g' := w.heap.size + 1 + 1) (frz_put (g' := w.heap.size + 1 + 1) (frz_put (g' := w.heap.size + 1 + 1) (frz_put (g' := w.heap.size + 1 + 1) (frz_put (g' := w.heap.size + 1 + 1) f3 0 (.int .i64 h)) 1 (.int .i64 l)) 2 (.int .i64 r)) 3 (.int .i64 lo)) 4 (.int .i64 ro)), (Bw.set (Bw.set (Bw.set (Bw.set (Bw.set b1 (by omega)) (by omega)) (by omega)) (by omega)) (by omega)), by simp; omega⟩
  case rest =>
  obtain ⟨c1, c2, c3, f2, f3, bb, zz⟩ := hcut
  rename_i wc'
  go_upto_region 3 with fail
  go_cut [] (fun wx => (∀ i, wx.cell? ⟨w.heap.size, i, none⟩ = #[Value.int .i64 h, Value.int .i64 l, Value.int .i64 r, Value.int .i64 lo, Value.int .i64 ro, Value.int .i64 rh, Value.int .i64 rd, Value.int .i64 rf, Value.int .i64 cr][i]?) ∧ (∀ i, wx.cell? ⟨w.heap.size + 1, i, none⟩ = #[Value.int .i64 0, Value.int .i64 0, Value.int .i64 0, Value.int .i64 0, Value.int .i64 0, Value.int .i64 0, Value.int .i64 0, Value.int .i64 0, Value.int .i64 0][i]?) ∧ (∀ i, wx.cell? ⟨w.heap.size + 1 + 1, i, none⟩ = #[Value.int .i64 h, Value.int .i64 l, Value.int .i64 r, Value.int .i64 lo, Value.int .i64 ro, Value.int .i64 rh, Value.int .i64 rd, Value.int .i64 rf, Value.int .i64 0][i]?) ∧ (∀ i, wx.frozen? ⟨w.heap.size + 1, i, none⟩ = false) ∧ (∀ i, wx.frozen? ⟨w.heap.size + 1 + 1, i, none⟩ = false) ∧ Below w.heap.size w wx ∧ w.heap.size + 3 ≤ wx.heap.size)
  case first =>
    go_wp2_with fail
    refine (toRim_any _ _ _ _).mono ?_
    rintro e w1 ⟨rfl, hb1⟩
    have z1 := hb1.size
    have b1 := bb.trans (hb1.mono (by omega))
    replace c1 := cell_kept hb1 (by omega) c1
    replace c2 := cell_kept hb1 (by omega) c2
    replace c3 := cell_kept hb1 (by omega) c3
    replace f2 := frz_kept hb1 (by omega) f2
    replace f3 := frz_kept hb1 (by omega) f3
    go_wp2_with fail
    go_meet
    exact ⟨(cell_far (g' := w.heap.size + 1 + 1) (cell_far (g' := w.heap.size + 1 + 1) (cell_far (g' := w.heap.size + 1 + 1) c1 (by omega) 5 (.int .i64 rh)) (by omega) 6 (.int .i64 rd)) (by omega) 7 (.int .i64 rf)), (cell_far (g' := w.heap.size + 1 + 1) (cell_far (g' := w.heap.size + 1 + 1) (cell_far (g' := w.heap.size + 1 + 1) c2 (by omega) 5 (.int .i64 rh)) (by omega) 6 (.int .i64 rd)) (by omega) 7 (.int .i64 rf)), (by have k := (cell_put (cell_put (cell_put c3 5 (.int .i64 rh) (by simp)) 6 (.int .i64 rd) (by simp)) 7 (.int .i64 rf) (by simp)); simpa using k), (frz_put (g' := w.heap.size + 1 + 1) (frz_put (g' := w.heap.size + 1 + 1) (frz_put (g' := w.heap.size + 1 + 1) f2 5 (.int .i64 rh)) 6 (.int .i64 rd)) 7 (.int .i64 rf)), (frz_put (g' := w.heap.size + 1 + 1) (frz_put (g' := w.heap.size + 1 + 1) (frz_put (g' := w.heap.size + 1 + 1) f3 5 (.int .i64 rh)) 6 (.int .i64 rd)) 7 (.int .i64 rf)), (Bw.set (Bw.set (Bw.set b1 (by omega)) (by omega)) (by omega)), by simp; omega⟩
  case rest =>
  obtain ⟨c1, c2, c3, f2, f3, bb, zz⟩ := hcut
  rename_i wc'
  go_upto_region 4 with fail
  go_cut [] (fun wx => (∀ i, wx.cell? ⟨w.heap.size, i, none⟩ = #[Value.int .i64 h, Value.int .i64 l, Value.int .i64 r, Value.int .i64 lo, Value.int .i64 ro, Value.int .i64 rh, Value.int .i64 rd, Value.int .i64 rf, Value.int .i64 cr][i]?) ∧ (∀ i, wx.cell? ⟨w.heap.size + 1, i, none⟩ = #[Value.int .i64 0, Value.int .i64 0, Value.int .i64 0, Value.int .i64 0, Value.int .i64 0, Value.int .i64 0, Value.int .i64 0, Value.int .i64 0, Value.int .i64 0][i]?) ∧ (∀ i, wx.cell? ⟨w.heap.size + 1 + 1, i, none⟩ = #[Value.int .i64 h, Value.int .i64 l, Value.int .i64 r, Value.int .i64 lo, Value.int .i64 ro, Value.int .i64 rh, Value.int .i64 rd, Value.int .i64 rf, Value.int .i64 cr][i]?) ∧ (∀ i, wx.frozen? ⟨w.heap.size + 1, i, none⟩ = false) ∧ (∀ i, wx.frozen? ⟨w.heap.size + 1 + 1, i, none⟩ = false) ∧ Below w.heap.size w wx ∧ w.heap.size + 3 ≤ wx.heap.size)
  case first =>
    have b1 := bb
    go_wp2_with fail
    go_meet
    exact ⟨(cell_far (g' := w.heap.size + 1 + 1) c1 (by omega) 8 (.int .i64 cr)), (cell_far (g' := w.heap.size + 1 + 1) c2 (by omega) 8 (.int .i64 cr)), (by have k := (cell_put c3 8 (.int .i64 cr) (by simp)); simpa using k), (frz_put (g' := w.heap.size + 1 + 1) f2 8 (.int .i64 cr)), (frz_put (g' := w.heap.size + 1 + 1) f3 8 (.int .i64 cr)), (Bw.set b1 (by omega)), by simp; omega⟩
  case rest =>
  obtain ⟨c1, c2, c3, f2, f3, bb, zz⟩ := hcut
  rename_i wc'
  go_wp2_with fail
  refine post_cell1 (v := .agg #[.int .i64 h, .int .i64 l, .int .i64 r, .int .i64 lo, .int .i64 ro, .int .i64 rh, .int .i64 rd, .int .i64 rf, .int .i64 cr]) Try.results16 rfl rfl (load9 (by have k := (cell_put (cell_put (cell_put (cell_put (cell_put (cell_put (cell_put (cell_put (cell_put c2 0 (.int .i64 h) (by simp)) 1 (.int .i64 l) (by simp)) 2 (.int .i64 r) (by simp)) 3 (.int .i64 lo) (by simp)) 4 (.int .i64 ro) (by simp)) 5 (.int .i64 rh) (by simp)) 6 (.int .i64 rd) (by simp)) 7 (.int .i64 rf) (by simp)) 8 (.int .i64 cr) (by simp)); simpa using k)) ⟨rfl, ?_⟩
  (repeat (first | with_reducible exact Below.refl _ _ | with_reducible assumption | ((with_reducible refine Bw.set ?_ ?_); rotate_left; focus omega) | ((with_reducible refine Bw.al ?_ ?_); rotate_left; focus (first | omega | (simp; done) | (simp; omega))) | with_reducible refine Below.drew ?_ | with_reducible refine Bw.dr ?_ _))

end Go.Proofs.Ytnoiijcpnjgnbaa
