/- Hubs, rims and wheels drawn. Conditions: those that each theorem names. -/
import Derived.Test.YtpejbmfapdocaaaDr
import Derived.Test.YtpejbmfapdocaaaWhA
namespace Go.Proofs.Ytpejbmfapdocaaa
open Go.RowKit

theorem put3 {w : World} {g : Nat} {u0 u1 u2 : Value} (h : ∀ i, w.cell? ⟨g, i, none⟩ = #[u0, u1, u2][i]?) (x0 x1 x2 : Value) : ∀ i, (((w.setCell ⟨g, 0, none⟩ x0).setCell ⟨g, 1, none⟩ x1).setCell ⟨g, 2, none⟩ x2).cell? ⟨g, i, none⟩ = #[x0, x1, x2][i]? := fun i => by
  have k := (cell_put (cell_put (cell_put h 0 x0 (by simp)) 1 x1 (by simp)) 2 x2 (by simp)) i
  exact k
theorem put5 {w : World} {g : Nat} {u0 u1 u2 u3 u4 : Value} (h : ∀ i, w.cell? ⟨g, i, none⟩ = #[u0, u1, u2, u3, u4][i]?) (x0 x1 x2 x3 x4 : Value) : ∀ i, (((((w.setCell ⟨g, 0, none⟩ x0).setCell ⟨g, 1, none⟩ x1).setCell ⟨g, 2, none⟩ x2).setCell ⟨g, 3, none⟩ x3).setCell ⟨g, 4, none⟩ x4).cell? ⟨g, i, none⟩ = #[x0, x1, x2, x3, x4][i]? := fun i => by
  have k := (cell_put (cell_put (cell_put (cell_put (cell_put h 0 x0 (by simp)) 1 x1 (by simp)) 2 x2 (by simp)) 3 x3 (by simp)) 4 x4 (by simp)) i
  exact k
set_option maxHeartbeats 4000000 in
theorem put9 {w : World} {g : Nat} {u0 u1 u2 u3 u4 u5 u6 u7 u8 : Value} (h : ∀ i, w.cell? ⟨g, i, none⟩ = #[u0, u1, u2, u3, u4, u5, u6, u7, u8][i]?) (x0 x1 x2 x3 x4 x5 x6 x7 x8 : Value) : ∀ i, (((((((((w.setCell ⟨g, 0, none⟩ x0).setCell ⟨g, 1, none⟩ x1).setCell ⟨g, 2, none⟩ x2).setCell ⟨g, 3, none⟩ x3).setCell ⟨g, 4, none⟩ x4).setCell ⟨g, 5, none⟩ x5).setCell ⟨g, 6, none⟩ x6).setCell ⟨g, 7, none⟩ x7).setCell ⟨g, 8, none⟩ x8).cell? ⟨g, i, none⟩ = #[x0, x1, x2, x3, x4, x5, x6, x7, x8][i]? := fun i => by
  have k := (cell_put (cell_put (cell_put (cell_put (cell_put (cell_put (cell_put (cell_put (cell_put h 0 x0 (by simp)) 1 x1 (by simp)) 2 x2 (by simp)) 3 x3 (by simp)) 4 x4 (by simp)) 5 x5 (by simp)) 6 x6 (by simp)) 7 x7 (by simp)) 8 x8 (by simp)) i
  simpa using k
theorem next_in {n m x : Int} (h : NextR n x) (hn : 1 ≤ n) (hm : n = m + 1) : 0 ≤ x ∧ x ≤ m := by
  obtain ⟨h1, h2⟩ := h
  omega
def HubP (g : Nat) (P : Int → Int → Int → Int → Int → Prop) (w : World) (e : Ending) (w' : World) : Prop := ∃ h l r lo ro : Int, P h l r lo ro ∧ e = .returned (.agg #[.int .i64 h, .int .i64 l, .int .i64 r, .int .i64 lo, .int .i64 ro]) ∧ Src w' g ∧ w.grownBy w' (some g)
def RimP (g : Nat) (w : World) (e : Ending) (w' : World) : Prop := ∃ h d o : Int, e = .returned (.agg #[.int .i64 h, .int .i64 d, .int .i64 o]) ∧ Src w' g ∧ w.grownBy w' (some g)
def WheelP (g : Nat) (w : World) (e : Ending) (w' : World) : Prop := ∃ h l r lo ro rh rd rf cr : Int, e = .returned (.agg #[.int .i64 h, .int .i64 l, .int .i64 r, .int .i64 lo, .int .i64 ro, .int .i64 rh, .int .i64 rd, .int .i64 rf, .int .i64 cr]) ∧ Src w' g ∧ w.grownBy w' (some g)
theorem load5h {w : World} {g : Nat} {v0 v1 v2 v3 v4 : Value} (h : ∀ i, w.cell? ⟨g, i, none⟩ = #[v0, v1, v2, v3, v4][i]?) : (loadVar 33 ⟨g, 0, none⟩).run Try.prog w = .ok (.agg #[v0, v1, v2, v3, v4]) w := by
  simp [go_sem, h]
set_option maxRecDepth 100000 in
set_option maxHeartbeats 2000000 in
theorem spec_l04Good (g : Nat) (w : World) (hs : Src w g) : Calls Try.prog 115 #[.pointer (some ⟨g, 0, none⟩)] w (HubP g (fun h l r lo ro => hubB h l r lo ro = true) w) := by
  have hgw := hs.lt
  have S := Lib.hid hs
  have G := Gr.refl w g
  have zG := G.size
  clear hs
  go_enter Try.func115, Try.ntmps115
  go_upto_region 1 with fail
  have c0 := cell_new w #[Value.int .i64 0, Value.int .i64 0, Value.int .i64 0, Value.int .i64 0, Value.int .i64 0] 33
  have fc0 := frz_new w #[Value.int .i64 0, Value.int .i64 0, Value.int .i64 0, Value.int .i64 0, Value.int .i64 0] 33
  have zc0 := lt_cell c0 (by simp)
  replace S := Lib.hid (S.out.al (.cells #[Value.int .i64 0, Value.int .i64 0, Value.int .i64 0, Value.int .i64 0, Value.int .i64 0] 33))
  replace G : w.grownBy (w.alloc (.cells #[Value.int .i64 0, Value.int .i64 0, Value.int .i64 0, Value.int .i64 0, Value.int .i64 0] 33)) (some g) := Gr.al G _
  replace zG := G.size
  generalize w.alloc (.cells #[Value.int .i64 0, Value.int .i64 0, Value.int .i64 0, Value.int .i64 0, Value.int .i64 0] 33) = w0 at *
  go_wp2_with fail
  (refine (spec_PickN g _ 7 _ [_, _, _, _, _, _, _] _ (by (repeat (first | exact S.out | with_reducible refine Src.al ?_ _ | with_reducible refine Src.dr ?_ _ | with_reducible refine Src.drw ?_ | ((with_reducible refine Src.new ?_ ?_ _ _); rotate_left; focus omega)))) rfl (by decide) (cell_new _ _ _) (by first | omega | (simp; omega))).mono ?_)
  rintro e w1 ⟨h, hh, rfl, hs, hg⟩
  replace G : w.grownBy w1 (some g) := Gr.tr (by (repeat (first | exact G | with_reducible refine Gr.al ?_ _ | with_reducible refine Gr.dr ?_ _ | with_reducible refine Gr.drw ?_ | ((with_reducible refine Gr.new ?_ ?_ _ _); rotate_left; focus omega)))) hg
  first | replace fc0 := frz_gr fc0 (by omega) (by omega) hg | replace fc0 := frz_gr (frz_alloc fc0 (by omega) _) (by simp; omega) (by omega) hg
  first | replace c0 := cell_gr c0 (by simp) (by omega) hg | replace c0 := cell_gr (cell_alloc c0 (by omega) _) (by simp) (by omega) hg
  replace zc0 := lt_cell c0 (by simp)
  clear S
  have S := Lib.hid hs
  have zG := G.size
  clear hs hg
  have hh2 : holesB h = true := by
    simp only [List.mem_cons, List.mem_nil_iff, or_false] at hh
    rcases hh with e | e | e | e | e | e | e <;> rw [e] <;> rfl
  replace hh2 := Lib.hid hh2
  clear hh
  go_wp2_with fail
  (with_reducible refine (spec_Next g 220 _ (by (repeat (first | exact S.out | with_reducible refine Src.al ?_ _ | with_reducible refine Src.dr ?_ _ | with_reducible refine Src.drw ?_ | ((with_reducible refine Src.new ?_ ?_ _ _); rotate_left; focus omega)))) (by omega)).mono ?_)
  rintro e w2 ⟨x2, hx2, rfl, hs, hg⟩
  replace G : w.grownBy w2 (some g) := Gr.tr (by (repeat (first | exact G | with_reducible refine Gr.al ?_ _ | with_reducible refine Gr.dr ?_ _ | with_reducible refine Gr.drw ?_ | ((with_reducible refine Gr.new ?_ ?_ _ _); rotate_left; focus omega)))) hg
  first | replace fc0 := frz_gr fc0 (by omega) (by omega) hg | replace fc0 := frz_gr (frz_alloc fc0 (by omega) _) (by simp; omega) (by omega) hg
  first | replace c0 := cell_gr c0 (by simp) (by omega) hg | replace c0 := cell_gr (cell_alloc c0 (by omega) _) (by simp) (by omega) hg
  replace zc0 := lt_cell c0 (by simp)
  clear S
  have S := Lib.hid hs
  have zG := G.size
  clear hs hg
  obtain ⟨u2, v2⟩ := next_in (m := 219) hx2 (by omega) (by omega)
  clear hx2
  go_wp2_with fail
  (with_reducible refine (spec_Next g 220 _ (by (repeat (first | exact S.out | with_reducible refine Src.al ?_ _ | with_reducible refine Src.dr ?_ _ | with_reducible refine Src.drw ?_ | ((with_reducible refine Src.new ?_ ?_ _ _); rotate_left; focus omega)))) (by omega)).mono ?_)
  rintro e w3 ⟨x3, hx3, rfl, hs, hg⟩
  replace G : w.grownBy w3 (some g) := Gr.tr (by (repeat (first | exact G | with_reducible refine Gr.al ?_ _ | with_reducible refine Gr.dr ?_ _ | with_reducible refine Gr.drw ?_ | ((with_reducible refine Gr.new ?_ ?_ _ _); rotate_left; focus omega)))) hg
  first | replace fc0 := frz_gr fc0 (by omega) (by omega) hg | replace fc0 := frz_gr (frz_alloc fc0 (by omega) _) (by simp; omega) (by omega) hg
  first | replace c0 := cell_gr c0 (by simp) (by omega) hg | replace c0 := cell_gr (cell_alloc c0 (by omega) _) (by simp) (by omega) hg
  replace zc0 := lt_cell c0 (by simp)
  clear S
  have S := Lib.hid hs
  have zG := G.size
  clear hs hg
  obtain ⟨u3, v3⟩ := next_in (m := 219) hx3 (by omega) (by omega)
  clear hx3
  go_wp2_with fail
  (with_reducible refine (spec_Next g 200 _ (by (repeat (first | exact S.out | with_reducible refine Src.al ?_ _ | with_reducible refine Src.dr ?_ _ | with_reducible refine Src.drw ?_ | ((with_reducible refine Src.new ?_ ?_ _ _); rotate_left; focus omega)))) (by omega)).mono ?_)
  rintro e w4 ⟨x4, hx4, rfl, hs, hg⟩
  replace G : w.grownBy w4 (some g) := Gr.tr (by (repeat (first | exact G | with_reducible refine Gr.al ?_ _ | with_reducible refine Gr.dr ?_ _ | with_reducible refine Gr.drw ?_ | ((with_reducible refine Gr.new ?_ ?_ _ _); rotate_left; focus omega)))) hg
  first | replace fc0 := frz_gr fc0 (by omega) (by omega) hg | replace fc0 := frz_gr (frz_alloc fc0 (by omega) _) (by simp; omega) (by omega) hg
  first | replace c0 := cell_gr c0 (by simp) (by omega) hg | replace c0 := cell_gr (cell_alloc c0 (by omega) _) (by simp) (by omega) hg
  replace zc0 := lt_cell c0 (by simp)
  clear S
  have S := Lib.hid hs
  have zG := G.size
  clear hs hg
  obtain ⟨u4, v4⟩ := next_in (m := 199) hx4 (by omega) (by omega)
  clear hx4
  go_wp2_with fail
  (with_reducible refine (spec_Next g 250 _ (by (repeat (first | exact S.out | with_reducible refine Src.al ?_ _ | with_reducible refine Src.dr ?_ _ | with_reducible refine Src.drw ?_ | ((with_reducible refine Src.new ?_ ?_ _ _); rotate_left; focus omega)))) (by omega)).mono ?_)
  rintro e w5 ⟨x5, hx5, rfl, hs, hg⟩
  replace G : w.grownBy w5 (some g) := Gr.tr (by (repeat (first | exact G | with_reducible refine Gr.al ?_ _ | with_reducible refine Gr.dr ?_ _ | with_reducible refine Gr.drw ?_ | ((with_reducible refine Gr.new ?_ ?_ _ _); rotate_left; focus omega)))) hg
  first | replace fc0 := frz_gr fc0 (by omega) (by omega) hg | replace fc0 := frz_gr (frz_alloc fc0 (by omega) _) (by simp; omega) (by omega) hg
  first | replace c0 := cell_gr c0 (by simp) (by omega) hg | replace c0 := cell_gr (cell_alloc c0 (by omega) _) (by simp) (by omega) hg
  replace zc0 := lt_cell c0 (by simp)
  clear S
  have S := Lib.hid hs
  have zG := G.size
  clear hs hg
  obtain ⟨u5, v5⟩ := next_in (m := 249) hx5 (by omega) (by omega)
  clear hx5
  have hok := Lib.hid (show hubB h (380 + x2) (380 + x3) (200 + x4) (150 + x5) = true by
    rw [hubB, hh2.out, inB_mk (by omega), inB_mk (by omega), inB_mk (by omega), inB_mk (by omega)]; rfl)
  go_wp2_with fail
  refine post_cell1 (v := .agg #[.int .i64 (h), .int .i64 (380 + x2), .int .i64 (380 + x3), .int .i64 (200 + x4), .int .i64 (150 + x5)]) Try.results115 rfl rfl (load5h (put5 c0 _ _ _ _ _)) ?_
  exact ⟨_, _, _, _, _, hok.out, rfl, by (repeat (first | exact S.out | with_reducible refine Src.al ?_ _ | with_reducible refine Src.dr ?_ _ | with_reducible refine Src.drw ?_ | ((with_reducible refine Src.new ?_ ?_ _ _); rotate_left; focus omega))), by (repeat (first | exact G | with_reducible refine Gr.al ?_ _ | with_reducible refine Gr.dr ?_ _ | with_reducible refine Gr.drw ?_ | ((with_reducible refine Gr.new ?_ ?_ _ _); rotate_left; focus omega)))⟩

end Go.Proofs.Ytpejbmfapdocaaa
