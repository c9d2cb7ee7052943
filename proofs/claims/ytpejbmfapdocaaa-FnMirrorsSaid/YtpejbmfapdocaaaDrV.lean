/- Arguments of the mirrors' law drawn. Conditions: those that each theorem names. -/
import Derived.Test.YtpejbmfapdocaaaDrX
import Derived.Test.YtpejbmfapdocaaaDrY
import Derived.Lib.MinMax
namespace Go.Proofs.Ytpejbmfapdocaaa
open Go.RowKit

theorem load9w {w : World} {g : Nat} {v0 v1 v2 v3 v4 v5 v6 v7 v8 : Value} (h : ∀ i, w.cell? ⟨g, i, none⟩ = #[v0, v1, v2, v3, v4, v5, v6, v7, v8][i]?) : (loadVar 64 ⟨g, 0, none⟩).run Try.prog w = .ok (.agg #[v0, v1, v2, v3, v4, v5, v6, v7, v8]) w := by
  simp [go_sem, h]
theorem held5 {W : World} {b : Nat} {v0 v1 v2 v3 v4 : Value} (h : ∀ i, W.cell? ⟨b, i, none⟩ = #[v0, v1, v2, v3, v4][i]?) : W.cell? ⟨b, 0, none⟩ = some v0 ∧ W.cell? ⟨b, 1, none⟩ = some v1 ∧ W.cell? ⟨b, 2, none⟩ = some v2 ∧ W.cell? ⟨b, 3, none⟩ = some v3 ∧ W.cell? ⟨b, 4, none⟩ = some v4 :=
  ⟨h 0, h 1, h 2, h 3, h 4⟩
theorem held5d {W : World} {b : Nat} {v0 v1 v2 v3 v4 : Value} (h : ∀ i, W.cell? ⟨b, i, none⟩ = #[v0, v1, v2, v3, v4][i]?) : W.drew.cell? ⟨b, 0, none⟩ = some v0 ∧ W.drew.cell? ⟨b, 1, none⟩ = some v1 ∧ W.drew.cell? ⟨b, 2, none⟩ = some v2 ∧ W.drew.cell? ⟨b, 3, none⟩ = some v3 ∧ W.drew.cell? ⟨b, 4, none⟩ = some v4 :=
  ⟨h 0, h 1, h 2, h 3, h 4⟩
theorem src9 {w : World} {g b : Nat} {x0 x1 x2 x3 x4 x5 x6 x7 x8 : Value} (h : Src w g) (hb : g < b) : Src (((((((((w.setCell ⟨b, 0, none⟩ x0).setCell ⟨b, 1, none⟩ x1).setCell ⟨b, 2, none⟩ x2).setCell ⟨b, 3, none⟩ x3).setCell ⟨b, 4, none⟩ x4).setCell ⟨b, 5, none⟩ x5).setCell ⟨b, 6, none⟩ x6).setCell ⟨b, 7, none⟩ x7).setCell ⟨b, 8, none⟩ x8) g := (((((((((h.new hb 0 x0).new hb 1 x1).new hb 2 x2).new hb 3 x3).new hb 4 x4).new hb 5 x5).new hb 6 x6).new hb 7 x7).new hb 8 x8)
theorem gr9 {a w : World} {g b : Nat} {x0 x1 x2 x3 x4 x5 x6 x7 x8 : Value} (h : a.grownBy w (some g)) (hb : a.heap.size ≤ b) : a.grownBy (((((((((w.setCell ⟨b, 0, none⟩ x0).setCell ⟨b, 1, none⟩ x1).setCell ⟨b, 2, none⟩ x2).setCell ⟨b, 3, none⟩ x3).setCell ⟨b, 4, none⟩ x4).setCell ⟨b, 5, none⟩ x5).setCell ⟨b, 6, none⟩ x6).setCell ⟨b, 7, none⟩ x7).setCell ⟨b, 8, none⟩ x8) (some g) := (Gr.new (Gr.new (Gr.new (Gr.new (Gr.new (Gr.new (Gr.new (Gr.new (Gr.new h hb 0 x0) hb 1 x1) hb 2 x2) hb 3 x3) hb 4 x4) hb 5 x5) hb 6 x6) hb 7 x7) hb 8 x8)
set_option maxRecDepth 100000 in
set_option maxHeartbeats 4000000 in
theorem spec_l04Wheel (g : Nat) (w : World) (hs : Src w g) : Calls Try.prog 130 #[.pointer (some ⟨g, 0, none⟩)] w (WheelP g w) := by
  have hgw := hs.lt
  have S := Lib.hid hs
  have G := Gr.refl w g
  have zG := G.size
  clear hs
  go_enter Try.func130, Try.ntmps130
  go_upto_region 1 with fail
  have c0 := cell_new w #[Value.int .i64 0, Value.int .i64 0, Value.int .i64 0, Value.int .i64 0, Value.int .i64 0, Value.int .i64 0, Value.int .i64 0, Value.int .i64 0, Value.int .i64 0] 64
  have fc0 := frz_new w #[Value.int .i64 0, Value.int .i64 0, Value.int .i64 0, Value.int .i64 0, Value.int .i64 0, Value.int .i64 0, Value.int .i64 0, Value.int .i64 0, Value.int .i64 0] 64
  have zc0 := lt_cell c0 (by simp)
  go_wp2_with fail
  (with_reducible refine (spec_l04Draw g _ (by (repeat (first | exact S.out | with_reducible refine Src.al ?_ _ | with_reducible refine Src.dr ?_ _ | with_reducible refine Src.drw ?_ | ((with_reducible refine Src.new ?_ ?_ _ _); rotate_left; focus omega))))).mono ?_)
  rintro e w1 ⟨h, l, r, lo, ro, _, rfl, hs, hg⟩
  replace G : w.grownBy w1 (some g) := Gr.tr (by (repeat (first | exact G | with_reducible refine Gr.al ?_ _ | with_reducible refine Gr.dr ?_ _ | with_reducible refine Gr.drw ?_ | ((with_reducible refine Gr.new ?_ ?_ _ _); rotate_left; focus omega)))) hg
  first | replace fc0 := frz_gr fc0 (by omega) (by omega) hg | replace fc0 := frz_gr (frz_alloc fc0 (by omega) _) (by simp; omega) (by omega) hg
  first | replace c0 := cell_gr c0 (by simp) (by omega) hg | replace c0 := cell_gr (cell_alloc c0 (by omega) _) (by simp) (by omega) hg
  replace zc0 := lt_cell c0 (by simp)
  clear S
  have S := Lib.hid hs
  have zG := G.size
  clear hs hg
  go_upto_region 2 with fail
  first | have lc1 : w.heap.size < w1.heap.size := by omega | have lc1 : w.heap.size ≤ w1.heap.size := by omega
  replace fc0 := frz_alloc fc0 (by omega) (.cells #[Value.int .i64 h, Value.int .i64 l, Value.int .i64 r, Value.int .i64 lo, Value.int .i64 ro] 33)
  replace c0 := cell_alloc c0 (by omega) (.cells #[Value.int .i64 h, Value.int .i64 l, Value.int .i64 r, Value.int .i64 lo, Value.int .i64 ro] 33)
  replace zc0 := lt_cell c0 (by simp)
  have c1 := cell_new w1 #[Value.int .i64 h, Value.int .i64 l, Value.int .i64 r, Value.int .i64 lo, Value.int .i64 ro] 33
  have fc1 := frz_new w1 #[Value.int .i64 h, Value.int .i64 l, Value.int .i64 r, Value.int .i64 lo, Value.int .i64 ro] 33
  replace G : w.grownBy (w1.alloc (.cells #[Value.int .i64 h, Value.int .i64 l, Value.int .i64 r, Value.int .i64 lo, Value.int .i64 ro] 33)) (some g) := Gr.al G _
  replace S := Lib.hid (S.out.al (.cells #[Value.int .i64 h, Value.int .i64 l, Value.int .i64 r, Value.int .i64 lo, Value.int .i64 ro] 33))
  have zc1 := lt_cell c1 (by simp)
  generalize w1.alloc (.cells #[Value.int .i64 h, Value.int .i64 l, Value.int .i64 r, Value.int .i64 lo, Value.int .i64 ro] 33) = w2 at *
  generalize w1.heap.size = b1 at *
  try have nc1 : ¬ b1 = w.heap.size := by omega
  try have mc1 : ¬ w.heap.size = b1 := by omega
  clear lc1
  go_region_held3 (fun w' => w'.cell? ⟨b1, 0, none⟩ = some (.int .i64 h) ∧ w'.cell? ⟨b1, 1, none⟩ = some (.int .i64 l) ∧ w'.cell? ⟨b1, 2, none⟩ = some (.int .i64 r) ∧ w'.cell? ⟨b1, 3, none⟩ = some (.int .i64 lo) ∧ w'.cell? ⟨b1, 4, none⟩ = some (.int .i64 ro))
    (first | (with_reducible refine held5 ?_; with_reducible exact c1) | (with_reducible refine held5 ?_; (repeat (with_reducible refine cell_far ?_ mc1 _ _)); with_reducible exact c1) | (with_reducible refine held5d ?_; with_reducible exact c1))
    (first | (go_at_call 104; (with_reducible refine (spec_Next g _ _ (by (repeat (first | exact S.out | with_reducible refine Src.al ?_ _ | with_reducible refine Src.dr ?_ _ | with_reducible refine Src.drw ?_ | ((with_reducible refine Src.new ?_ ?_ _ _); rotate_left; focus omega)))) (by omega)).mono ?_); rintro e w4 ⟨x4, hx4, rfl, hs, hg⟩; (try replace hg := Gr.un hg); replace G : w.grownBy w4 (some g) := Gr.tr (by (repeat (first | exact G | with_reducible refine Gr.al ?_ _ | with_reducible refine Gr.dr ?_ _ | with_reducible refine Gr.drw ?_ | ((with_reducible refine Gr.new ?_ ?_ _ _); rotate_left; focus omega)))) hg; (first | replace fc0 := frz_gr fc0 (by omega) (by omega) hg | replace fc0 := frz_gr (frz_alloc fc0 (by omega) _) (by simp; omega) (by omega) hg); (first | replace c0 := cell_gr c0 (by simp) (by omega) hg | replace c0 := cell_gr (cell_alloc c0 (by omega) _) (by simp) (by omega) hg); replace zc0 := lt_cell c0 (by simp); (first | replace fc1 := frz_gr fc1 (by omega) (by omega) hg | replace fc1 := frz_gr (frz_alloc fc1 (by omega) _) (by simp; omega) (by omega) hg); (first | replace c1 := cell_gr c1 (by simp) (by omega) hg | replace c1 := cell_gr (cell_alloc c1 (by omega) _) (by simp) (by omega) hg); replace zc1 := lt_cell c1 (by simp); replace S := Lib.hid hs; clear hs hg) | (go_at_call 136; (with_reducible refine (spec_l04Rim g _ _ (by (repeat (first | exact S.out | with_reducible refine Src.al ?_ _ | with_reducible refine Src.dr ?_ _ | with_reducible refine Src.drw ?_ | ((with_reducible refine Src.new ?_ ?_ _ _); rotate_left; focus omega))))).mono ?_); rintro e w4 ⟨rh, rd, rf, rfl, hs, hg⟩; (try replace hg := Gr.un hg); replace G : w.grownBy w4 (some g) := Gr.tr (by (repeat (first | exact G | with_reducible refine Gr.al ?_ _ | with_reducible refine Gr.dr ?_ _ | with_reducible refine Gr.drw ?_ | ((with_reducible refine Gr.new ?_ ?_ _ _); rotate_left; focus omega)))) hg; (first | replace fc0 := frz_gr fc0 (by omega) (by omega) hg | replace fc0 := frz_gr (frz_alloc fc0 (by omega) _) (by simp; omega) (by omega) hg); (first | replace c0 := cell_gr c0 (by simp) (by omega) hg | replace c0 := cell_gr (cell_alloc c0 (by omega) _) (by simp) (by omega) hg); replace zc0 := lt_cell c0 (by simp); (first | replace fc1 := frz_gr fc1 (by omega) (by omega) hg | replace fc1 := frz_gr (frz_alloc fc1 (by omega) _) (by simp; omega) (by omega) hg); (first | replace c1 := cell_gr c1 (by simp) (by omega) hg | replace c1 := cell_gr (cell_alloc c1 (by omega) _) (by simp) (by omega) hg); replace zc1 := lt_cell c1 (by simp); replace S := Lib.hid hs; clear hs hg))
  all_goals (go_wp2_with fail; generalize IntKind.i64.wrap (min _ _ + _) = cr; refine post_cell1 (v := .agg #[.int .i64 (h), .int .i64 (l), .int .i64 (r), .int .i64 (lo), .int .i64 (ro), .int .i64 (rh), .int .i64 (rd), .int .i64 (rf), .int .i64 (cr)]) Try.results130 rfl rfl (load9w (put9 c0 _ _ _ _ _ _ _ _ _)) ?_; exact ⟨_, _, _, _, _, _, _, _, _, rfl, src9 S.out hgw, gr9 G (Nat.le_refl _)⟩)
def WheelD (v : World) (e : Ending) (w' : World) : Prop := ∃ h l r lo ro rh rd rf cr : Int, e = .returned (.agg #[.int .i64 h, .int .i64 l, .int .i64 r, .int .i64 lo, .int .i64 ro, .int .i64 rh, .int .i64 rd, .int .i64 rf, .int .i64 cr]) ∧ Below v.heap.size v w'
def RimD (v : World) (e : Ending) (w' : World) : Prop := ∃ h d o : Int, e = .returned (.agg #[.int .i64 h, .int .i64 d, .int .i64 o]) ∧ Below v.heap.size v w'
def NumD (v : World) (e : Ending) (w' : World) : Prop := ∃ x : Int, e = .returned (.int .i64 x) ∧ Below v.heap.size v w'
set_option maxRecDepth 100000 in
set_option maxHeartbeats 4000000 in
theorem spec_DrawMirrorWheel (A : Option Addr) (c : Nat) (us : List Int) (v : World) (hu : Code us) (hr : Rd v v.heap.size A (bv us)) : Calls Try.prog 59 #[.slice A us.length c] v (WheelD v) := by
  have HU := Lib.hid hu
  have HR := Lib.hid hr
  clear hu hr
  go_enter Try.func59, Try.ntmps59
  go_upto_region 1 with fail
  have c0 := cell_new v #[Value.int .i64 0, Value.int .i64 0, Value.int .i64 0, Value.int .i64 0, Value.int .i64 0, Value.int .i64 0, Value.int .i64 0, Value.int .i64 0, Value.int .i64 0] 64
  have fc0 := frz_new v #[Value.int .i64 0, Value.int .i64 0, Value.int .i64 0, Value.int .i64 0, Value.int .i64 0, Value.int .i64 0, Value.int .i64 0, Value.int .i64 0, Value.int .i64 0] 64
  have zc0 := lt_cell c0 (by simp)
  have bb : Below v.heap.size v (v.alloc (.cells #[Value.int .i64 0, Value.int .i64 0, Value.int .i64 0, Value.int .i64 0, Value.int .i64 0, Value.int .i64 0, Value.int .i64 0, Value.int .i64 0, Value.int .i64 0] 64)) := by (repeat (first | with_reducible exact Below.refl _ _ | with_reducible assumption | ((with_reducible refine Bw.set ?_ ?_); rotate_left; focus omega) | ((with_reducible refine Bw.al ?_ ?_); rotate_left; focus (first | omega | (simp; done) | (simp; omega))) | with_reducible refine Below.drew ?_ | with_reducible refine Bw.dr ?_ _))
  generalize v.alloc (.cells #[Value.int .i64 0, Value.int .i64 0, Value.int .i64 0, Value.int .i64 0, Value.int .i64 0, Value.int .i64 0, Value.int .i64 0, Value.int .i64 0, Value.int .i64 0] 64) = X at *
  go_wp2_with fail
  (with_reducible refine (spec_From _ _ us _ HU.out ((HR.out.keep bb).more bb.size)).mono ?_)
  rintro e w ⟨rfl, hs, hb⟩
  replace fc0 := frz_kept hb zc0 fc0
  replace c0 := cell_kept hb zc0 c0
  have gc0 := zc0
  replace zc0 := lt_cell c0 (by simp)
  have zv := bb.size
  replace bb : Below v.heap.size v w := bb.trans (hb.mono (by omega))
  generalize X.heap.size = g at *
  clear hb
  have hgw := hs.lt
  have S := Lib.hid hs
  have G := Gr.refl w g
  have zG := G.size
  clear hs
  go_wp2_with fail
  (with_reducible refine (spec_l04Wheel g _ (by (repeat (first | exact S.out | with_reducible refine Src.al ?_ _ | with_reducible refine Src.dr ?_ _ | with_reducible refine Src.drw ?_ | ((with_reducible refine Src.new ?_ ?_ _ _); rotate_left; focus omega))))).mono ?_)
  rintro e w1 ⟨h, l, r, lo, ro, rh, rd, rf, cr, rfl, hs, hg⟩
  replace G : w.grownBy w1 (some g) := Gr.tr (by (repeat (first | exact G | with_reducible refine Gr.al ?_ _ | with_reducible refine Gr.dr ?_ _ | with_reducible refine Gr.drw ?_ | ((with_reducible refine Gr.new ?_ ?_ _ _); rotate_left; focus omega)))) hg
  first | replace fc0 := frz_gr fc0 (by omega) (by omega) hg | replace fc0 := frz_gr (frz_alloc fc0 (by omega) _) (by simp; omega) (by omega) hg
  first | replace c0 := cell_gr c0 (by simp) (by omega) hg | replace c0 := cell_gr (cell_alloc c0 (by omega) _) (by simp) (by omega) hg
  replace zc0 := lt_cell c0 (by simp)
  replace bb := Gr.below bb G (by omega) (by omega)
  clear S hs hg
  go_wp2_with fail
  refine post_cell1 (v := .agg #[.int .i64 (h), .int .i64 (l), .int .i64 (r), .int .i64 (lo), .int .i64 (ro), .int .i64 (rh), .int .i64 (rd), .int .i64 (rf), .int .i64 (cr)]) Try.results59 rfl rfl (load9w (put9 c0 _ _ _ _ _ _ _ _ _)) ?_
  exact ⟨_, _, _, _, _, _, _, _, _, rfl, by (repeat (first | with_reducible exact Below.refl _ _ | with_reducible assumption | ((with_reducible refine Bw.set ?_ ?_); rotate_left; focus omega) | ((with_reducible refine Bw.al ?_ ?_); rotate_left; focus (first | omega | (simp; done) | (simp; omega))) | with_reducible refine Below.drew ?_ | with_reducible refine Bw.dr ?_ _))⟩
set_option maxHeartbeats 4000000 in
theorem spec_DrawMirrorHub (A : Option Addr) (c : Nat) (us : List Int) (v : World) (hu : Code us) (hr : Rd v v.heap.size A (bv us)) : Calls Try.prog 64 #[.slice A us.length c] v (HubD v) := by
  have HU := Lib.hid hu
  have HR := Lib.hid hr
  clear hu hr
  go_enter Try.func64, Try.ntmps64
  go_upto_region 1 with fail
  have c0 := cell_new v #[Value.int .i64 0, Value.int .i64 0, Value.int .i64 0, Value.int .i64 0, Value.int .i64 0] 33
  have fc0 := frz_new v #[Value.int .i64 0, Value.int .i64 0, Value.int .i64 0, Value.int .i64 0, Value.int .i64 0] 33
  have zc0 := lt_cell c0 (by simp)
  have bb : Below v.heap.size v (v.alloc (.cells #[Value.int .i64 0, Value.int .i64 0, Value.int .i64 0, Value.int .i64 0, Value.int .i64 0] 33)) := by (repeat (first | with_reducible exact Below.refl _ _ | with_reducible assumption | ((with_reducible refine Bw.set ?_ ?_); rotate_left; focus omega) | ((with_reducible refine Bw.al ?_ ?_); rotate_left; focus (first | omega | (simp; done) | (simp; omega))) | with_reducible refine Below.drew ?_ | with_reducible refine Bw.dr ?_ _))
  generalize v.alloc (.cells #[Value.int .i64 0, Value.int .i64 0, Value.int .i64 0, Value.int .i64 0, Value.int .i64 0] 33) = X at *
  go_wp2_with fail
  (with_reducible refine (spec_From _ _ us _ HU.out ((HR.out.keep bb).more bb.size)).mono ?_)
  rintro e w ⟨rfl, hs, hb⟩
  replace fc0 := frz_kept hb zc0 fc0
  replace c0 := cell_kept hb zc0 c0
  have gc0 := zc0
  replace zc0 := lt_cell c0 (by simp)
  have zv := bb.size
  replace bb : Below v.heap.size v w := bb.trans (hb.mono (by omega))
  generalize X.heap.size = g at *
  clear hb
  have hgw := hs.lt
  have S := Lib.hid hs
  have G := Gr.refl w g
  have zG := G.size
  clear hs
  go_wp2_with fail
  (with_reducible refine (spec_l04Draw g _ (by (repeat (first | exact S.out | with_reducible refine Src.al ?_ _ | with_reducible refine Src.dr ?_ _ | with_reducible refine Src.drw ?_ | ((with_reducible refine Src.new ?_ ?_ _ _); rotate_left; focus omega))))).mono ?_)
  rintro e w1 ⟨h, l, r, lo, ro, _, rfl, hs, hg⟩
  replace G : w.grownBy w1 (some g) := Gr.tr (by (repeat (first | exact G | with_reducible refine Gr.al ?_ _ | with_reducible refine Gr.dr ?_ _ | with_reducible refine Gr.drw ?_ | ((with_reducible refine Gr.new ?_ ?_ _ _); rotate_left; focus omega)))) hg
  first | replace fc0 := frz_gr fc0 (by omega) (by omega) hg | replace fc0 := frz_gr (frz_alloc fc0 (by omega) _) (by simp; omega) (by omega) hg
  first | replace c0 := cell_gr c0 (by simp) (by omega) hg | replace c0 := cell_gr (cell_alloc c0 (by omega) _) (by simp) (by omega) hg
  replace zc0 := lt_cell c0 (by simp)
  replace bb := Gr.below bb G (by omega) (by omega)
  clear S hs hg
  go_wp2_with fail
  refine post_cell1 (v := .agg #[.int .i64 (h), .int .i64 (l), .int .i64 (r), .int .i64 (lo), .int .i64 (ro)]) Try.results64 rfl rfl (load5h (put5 c0 _ _ _ _ _)) ?_
  exact ⟨_, _, _, _, _, rfl, by (repeat (first | with_reducible exact Below.refl _ _ | with_reducible assumption | ((with_reducible refine Bw.set ?_ ?_); rotate_left; focus omega) | ((with_reducible refine Bw.al ?_ ?_); rotate_left; focus (first | omega | (simp; done) | (simp; omega))) | with_reducible refine Below.drew ?_ | with_reducible refine Bw.dr ?_ _))⟩
set_option maxHeartbeats 4000000 in
theorem spec_DrawIsRim (A : Option Addr) (c : Nat) (us : List Int) (v : World) (hu : Code us) (hr : Rd v v.heap.size A (bv us)) : Calls Try.prog 70 #[.slice A us.length c] v (RimD v) := by
  have HU := Lib.hid hu
  have HR := Lib.hid hr
  clear hu hr
  go_enter Try.func70, Try.ntmps70
  go_upto_region 1 with fail
  have c0 := cell_new v #[Value.int .i64 0, Value.int .i64 0, Value.int .i64 0] 62
  have fc0 := frz_new v #[Value.int .i64 0, Value.int .i64 0, Value.int .i64 0] 62
  have zc0 := lt_cell c0 (by simp)
  have bb : Below v.heap.size v (v.alloc (.cells #[Value.int .i64 0, Value.int .i64 0, Value.int .i64 0] 62)) := by (repeat (first | with_reducible exact Below.refl _ _ | with_reducible assumption | ((with_reducible refine Bw.set ?_ ?_); rotate_left; focus omega) | ((with_reducible refine Bw.al ?_ ?_); rotate_left; focus (first | omega | (simp; done) | (simp; omega))) | with_reducible refine Below.drew ?_ | with_reducible refine Bw.dr ?_ _))
  generalize v.alloc (.cells #[Value.int .i64 0, Value.int .i64 0, Value.int .i64 0] 62) = X at *
  go_wp2_with fail
  (with_reducible refine (spec_From _ _ us _ HU.out ((HR.out.keep bb).more bb.size)).mono ?_)
  rintro e w ⟨rfl, hs, hb⟩
  replace fc0 := frz_kept hb zc0 fc0
  replace c0 := cell_kept hb zc0 c0
  have gc0 := zc0
  replace zc0 := lt_cell c0 (by simp)
  have zv := bb.size
  replace bb : Below v.heap.size v w := bb.trans (hb.mono (by omega))
  generalize X.heap.size = g at *
  clear hb
  have hgw := hs.lt
  have S := Lib.hid hs
  have G := Gr.refl w g
  have zG := G.size
  clear hs
  go_wp2_with fail
  (with_reducible refine (spec_l04Rim g 32 _ (by (repeat (first | exact S.out | with_reducible refine Src.al ?_ _ | with_reducible refine Src.dr ?_ _ | with_reducible refine Src.drw ?_ | ((with_reducible refine Src.new ?_ ?_ _ _); rotate_left; focus omega))))).mono ?_)
  rintro e w1 ⟨h, d, o, rfl, hs, hg⟩
  replace G : w.grownBy w1 (some g) := Gr.tr (by (repeat (first | exact G | with_reducible refine Gr.al ?_ _ | with_reducible refine Gr.dr ?_ _ | with_reducible refine Gr.drw ?_ | ((with_reducible refine Gr.new ?_ ?_ _ _); rotate_left; focus omega)))) hg
  first | replace fc0 := frz_gr fc0 (by omega) (by omega) hg | replace fc0 := frz_gr (frz_alloc fc0 (by omega) _) (by simp; omega) (by omega) hg
  first | replace c0 := cell_gr c0 (by simp) (by omega) hg | replace c0 := cell_gr (cell_alloc c0 (by omega) _) (by simp) (by omega) hg
  replace zc0 := lt_cell c0 (by simp)
  replace bb := Gr.below bb G (by omega) (by omega)
  clear S hs hg
  go_wp2_with fail
  refine post_cell1 (v := .agg #[.int .i64 (h), .int .i64 (d), .int .i64 (o)]) Try.results70 rfl rfl (load3r (put3 c0 _ _ _)) ?_
  exact ⟨_, _, _, rfl, by (repeat (first | with_reducible exact Below.refl _ _ | with_reducible assumption | ((with_reducible refine Bw.set ?_ ?_); rotate_left; focus omega) | ((with_reducible refine Bw.al ?_ ?_); rotate_left; focus (first | omega | (simp; done) | (simp; omega))) | with_reducible refine Below.drew ?_ | with_reducible refine Bw.dr ?_ _))⟩
set_option maxRecDepth 100000 in
set_option maxHeartbeats 1000000 in
theorem spec_DrawMostCrosses (A : Option Addr) (cap : Nat) (us : List Int) (v : World) (hu : Code us) (hr : Rd v v.heap.size A (bv us)) : Calls Try.prog 67 #[.slice A us.length cap] v (NumD v) := by
  have HU := Lib.hid hu
  have HR := Lib.hid hr
  clear hu hr
  have bb := Below.refl v.heap.size v
  have zb := bb.size
  go_enter Try.func67, Try.ntmps67
  go_wp2_with fail
  (with_reducible refine (spec_From _ _ us _ HU.out (HR.out)).mono ?_)
  rintro e w ⟨rfl, hs, hb⟩
  have bb : Below v.heap.size v w := hb
  have zv : v.heap.size ≤ v.heap.size := Nat.le_refl _
  obtain ⟨g, hgg⟩ : ∃ g, v.heap.size = g := ⟨_, rfl⟩
  rw [hgg] at hs
  have hgw := hs.lt
  have S := Lib.hid hs
  have G := Gr.refl w g
  have zG := G.size
  have hgv : v.heap.size ≤ g := Nat.le_of_eq hgg
  rw [hgg]
  clear hb hs hgg
  go_wp2_with fail
  (with_reducible refine (spec_Next g 50 _ (by (repeat (first | exact S.out | with_reducible refine Src.al ?_ _ | with_reducible refine Src.dr ?_ _ | with_reducible refine Src.drw ?_ | ((with_reducible refine Src.new ?_ ?_ _ _); rotate_left; focus omega)))) (by omega)).mono ?_)
  rintro e w1 ⟨x1, hx1, rfl, hs, hg⟩
  replace G : w.grownBy w1 (some g) := Gr.tr (by (repeat (first | exact G | with_reducible refine Gr.al ?_ _ | with_reducible refine Gr.dr ?_ _ | with_reducible refine Gr.drw ?_ | ((with_reducible refine Gr.new ?_ ?_ _ _); rotate_left; focus omega)))) hg
  clear S
  have S := Lib.hid hs
  have zG := G.size
  clear hs hg
  clear hx1
  go_wp2_with fail
  (refine (spec_PickN g _ 11 _ [_, _, _, _, _, _, _, _, _, _, _] _ (by (repeat (first | exact S.out | with_reducible refine Src.al ?_ _ | with_reducible refine Src.dr ?_ _ | with_reducible refine Src.drw ?_ | ((with_reducible refine Src.new ?_ ?_ _ _); rotate_left; focus omega)))) rfl (by decide) (cell_new _ _ _) (by first | omega | (simp; omega))).mono ?_)
  rintro e w3 ⟨x3, hx3, rfl, hs, hg⟩
  replace G : w.grownBy w3 (some g) := Gr.tr (by (repeat (first | exact G | with_reducible refine Gr.al ?_ _ | with_reducible refine Gr.dr ?_ _ | with_reducible refine Gr.drw ?_ | ((with_reducible refine Gr.new ?_ ?_ _ _); rotate_left; focus omega)))) hg
  clear S
  have S := Lib.hid hs
  have zG := G.size
  clear hs hg
  clear hx3
  replace bb := Gr.below bb G (by omega) (by omega)
  go_wp2_with fail
  go_ret
  exact ⟨_, rfl, bb⟩

end Go.Proofs.Ytpejbmfapdocaaa
