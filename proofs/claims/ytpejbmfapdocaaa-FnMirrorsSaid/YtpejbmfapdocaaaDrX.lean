/- Hubs drawn, rarely something else. Conditions: those that the theorem names. -/
import Derived.Test.YtpejbmfapdocaaaDrW
namespace Go.Proofs.Ytpejbmfapdocaaa
open Go.RowKit

theorem one5_0 {w : World} {g : Nat} {u0 u1 u2 u3 u4 : Value} (h : ∀ i, w.cell? ⟨g, i, none⟩ = #[u0, u1, u2, u3, u4][i]?) (x : Value) : ∀ i, (w.setCell ⟨g, 0, none⟩ x).cell? ⟨g, i, none⟩ = #[x, u1, u2, u3, u4][i]? := cell_put h 0 x (by simp)
theorem one5_1 {w : World} {g : Nat} {u0 u1 u2 u3 u4 : Value} (h : ∀ i, w.cell? ⟨g, i, none⟩ = #[u0, u1, u2, u3, u4][i]?) (x : Value) : ∀ i, (w.setCell ⟨g, 1, none⟩ x).cell? ⟨g, i, none⟩ = #[u0, x, u2, u3, u4][i]? := cell_put h 1 x (by simp)
theorem one5_4 {w : World} {g : Nat} {u0 u1 u2 u3 u4 : Value} (h : ∀ i, w.cell? ⟨g, i, none⟩ = #[u0, u1, u2, u3, u4][i]?) (x : Value) : ∀ i, (w.setCell ⟨g, 4, none⟩ x).cell? ⟨g, i, none⟩ = #[u0, u1, u2, u3, x][i]? := cell_put h 4 x (by simp)
def HubD (v : World) (e : Ending) (w' : World) : Prop := ∃ h l r lo ro : Int, e = .returned (.agg #[.int .i64 h, .int .i64 l, .int .i64 r, .int .i64 lo, .int .i64 ro]) ∧ Below v.heap.size v w'
set_option maxRecDepth 100000 in
set_option maxHeartbeats 8000000 in
theorem spec_l04Draw (g : Nat) (w : World) (hs : Src w g) : Calls Try.prog 111 #[.pointer (some ⟨g, 0, none⟩)] w (HubP g (fun _ _ _ _ _ => True) w) := by
  have hgw := hs.lt
  have S := Lib.hid hs
  have G := Gr.refl w g
  have zG := G.size
  clear hs
  go_enter Try.func111, Try.ntmps111
  go_upto_region 1 with fail
  have c0 := cell_new w #[Value.int .i64 0, Value.int .i64 0, Value.int .i64 0, Value.int .i64 0, Value.int .i64 0] 33
  have fc0 := frz_new w #[Value.int .i64 0, Value.int .i64 0, Value.int .i64 0, Value.int .i64 0, Value.int .i64 0] 33
  have zc0 := lt_cell c0 (by simp)
  go_wp2_with fail
  (with_reducible refine (spec_l04Good g _ (by (repeat (first | exact S.out | with_reducible refine Src.al ?_ _ | with_reducible refine Src.dr ?_ _ | with_reducible refine Src.drw ?_ | ((with_reducible refine Src.new ?_ ?_ _ _); rotate_left; focus omega))))).mono ?_)
  rintro e w1 ⟨h, l, r, lo, ro, _, rfl, hs, hg⟩
  replace G : w.grownBy w1 (some g) := Gr.tr (by (repeat (first | exact G | with_reducible refine Gr.al ?_ _ | with_reducible refine Gr.dr ?_ _ | with_reducible refine Gr.drw ?_ | ((with_reducible refine Gr.new ?_ ?_ _ _); rotate_left; focus omega)))) hg
  first | replace fc0 := frz_gr fc0 (by omega) (by omega) hg | replace fc0 := frz_gr (frz_alloc fc0 (by omega) _) (by simp; omega) (by omega) hg
  first | replace c0 := cell_gr c0 (by simp) (by omega) hg | replace c0 := cell_gr (cell_alloc c0 (by omega) _) (by simp) (by omega) hg
  replace zc0 := lt_cell c0 (by simp)
  clear S
  have S := Lib.hid hs
  have zG := G.size
  clear hs hg
  go_upto_region 2 with fail
  first | have lc1 : w.heap.size < w1.heap.size := by omega | have lc1 : w.heap.size ≤ w1.heap.size := by omega
  replace fc0 := frz_alloc fc0 (by omega) (.cells #[Value.int .i64 h, Value.int .i64 l, Value.int .i64 r, Value.int .i64 lo, Value.int .i64 ro] 33)
  replace c0 := cell_alloc c0 (by omega) (.cells #[Value.int .i64 h, Value.int .i64 l, Value.int .i64 r, Value.int .i64 lo, Value.int .i64 ro] 33)
  replace zc0 := lt_cell c0 (by simp)
  have c1 := cell_new w1 #[Value.int .i64 h, Value.int .i64 l, Value.int .i64 r, Value.int .i64 lo, Value.int .i64 ro] 33
  have fc1 := frz_new w1 #[Value.int .i64 h, Value.int .i64 l, Value.int .i64 r, Value.int .i64 lo, Value.int .i64 ro] 33
  replace G : w.grownBy (w1.alloc (.cells #[Value.int .i64 h, Value.int .i64 l, Value.int .i64 r, Value.int .i64 lo, Value.int .i64 ro] 33)) (some g) := Gr.al G _
  replace S := Lib.hid (S.out.al (.cells #[Value.int .i64 h, Value.int .i64 l, Value.int .i64 r, Value.int .i64 lo, Value.int .i64 ro] 33))
  have zc1 := lt_cell c1 (by simp)
  generalize w1.alloc (.cells #[Value.int .i64 h, Value.int .i64 l, Value.int .i64 r, Value.int .i64 lo, Value.int .i64 ro] 33) = w2 at *
  generalize w1.heap.size = b1 at *
  try have nc1 : ¬ b1 = w.heap.size := by omega
  try have mc1 : ¬ w.heap.size = b1 := by omega
  go_wp2_with fail
  (with_reducible refine (spec_Next g 30 _ (by (repeat (first | exact S.out | with_reducible refine Src.al ?_ _ | with_reducible refine Src.dr ?_ _ | with_reducible refine Src.drw ?_ | ((with_reducible refine Src.new ?_ ?_ _ _); rotate_left; focus omega)))) (by omega)).mono ?_)
  rintro e w3 ⟨x, hx, rfl, hs, hg⟩
  replace G : w.grownBy w3 (some g) := Gr.tr (by (repeat (first | exact G | with_reducible refine Gr.al ?_ _ | with_reducible refine Gr.dr ?_ _ | with_reducible refine Gr.drw ?_ | ((with_reducible refine Gr.new ?_ ?_ _ _); rotate_left; focus omega)))) hg
  first | replace fc0 := frz_gr fc0 (by omega) (by omega) hg | replace fc0 := frz_gr (frz_alloc fc0 (by omega) _) (by simp; omega) (by omega) hg
  first | replace c0 := cell_gr c0 (by simp) (by omega) hg | replace c0 := cell_gr (cell_alloc c0 (by omega) _) (by simp) (by omega) hg
  replace zc0 := lt_cell c0 (by simp)
  first | replace fc1 := frz_gr fc1 (by omega) (by omega) hg | replace fc1 := frz_gr (frz_alloc fc1 (by omega) _) (by simp; omega) (by omega) hg
  first | replace c1 := cell_gr c1 (by simp) (by omega) hg | replace c1 := cell_gr (cell_alloc c1 (by omega) _) (by simp) (by omega) hg
  replace zc1 := lt_cell c1 (by simp)
  clear S
  have S := Lib.hid hs
  have zG := G.size
  clear hs hg
  clear hx
  rcases e0 : (x == 0) with _ | _
  · rcases e1 : (x == 1) with _ | _
    · rcases e2 : (x == 2) with _ | _
      · go_wp2_with fail
        refine post_cell1 (v := .agg #[.int .i64 (h), .int .i64 (l), .int .i64 (r), .int .i64 (lo), .int .i64 (ro)]) Try.results111 rfl rfl (load5h (put5 c0 _ _ _ _ _)) ?_
        exact ⟨_, _, _, _, _, trivial, rfl, by (repeat (first | exact S.out | with_reducible refine Src.al ?_ _ | with_reducible refine Src.dr ?_ _ | with_reducible refine Src.drw ?_ | ((with_reducible refine Src.new ?_ ?_ _ _); rotate_left; focus omega))), by (repeat (first | exact G | with_reducible refine Gr.al ?_ _ | with_reducible refine Gr.dr ?_ _ | with_reducible refine Gr.drw ?_ | ((with_reducible refine Gr.new ?_ ?_ _ _); rotate_left; focus omega)))⟩
      · go_wp2_with fail
        (refine (spec_PickN g _ 4 _ [_, _, _, _] _ (by (repeat (first | exact S.out | with_reducible refine Src.al ?_ _ | with_reducible refine Src.dr ?_ _ | with_reducible refine Src.drw ?_ | ((with_reducible refine Src.new ?_ ?_ _ _); rotate_left; focus omega)))) rfl (by decide) (cell_new _ _ _) (by first | omega | (simp; omega))).mono ?_)
        rintro e w4 ⟨y, hy, rfl, hs, hg⟩
        replace G : w.grownBy w4 (some g) := Gr.tr (by (repeat (first | exact G | with_reducible refine Gr.al ?_ _ | with_reducible refine Gr.dr ?_ _ | with_reducible refine Gr.drw ?_ | ((with_reducible refine Gr.new ?_ ?_ _ _); rotate_left; focus omega)))) hg
        first | replace fc0 := frz_gr fc0 (by omega) (by omega) hg | replace fc0 := frz_gr (frz_alloc fc0 (by omega) _) (by simp; omega) (by omega) hg
        first | replace c0 := cell_gr c0 (by simp) (by omega) hg | replace c0 := cell_gr (cell_alloc c0 (by omega) _) (by simp) (by omega) hg
        replace zc0 := lt_cell c0 (by simp)
        first | replace fc1 := frz_gr fc1 (by omega) (by omega) hg | replace fc1 := frz_gr (frz_alloc fc1 (by omega) _) (by simp; omega) (by omega) hg
        first | replace c1 := cell_gr c1 (by simp) (by omega) hg | replace c1 := cell_gr (cell_alloc c1 (by omega) _) (by simp) (by omega) hg
        replace zc1 := lt_cell c1 (by simp)
        clear S
        have S := Lib.hid hs
        have zG := G.size
        clear hs hg
        clear hy
        go_upto_region 9 with fail
        replace fc0 := frz_put fc0 (g' := b1) 4 (.int .i64 y)
        replace c0 := cell_far c0 (g' := b1) (by omega) 4 (.int .i64 y)
        replace zc0 := lt_cell c0 (by simp)
        replace fc1 := frz_put fc1 (g' := b1) 4 (.int .i64 y)
        replace c1 := one5_4 c1 (.int .i64 y)
        replace zc1 := lt_cell c1 (by simp)
        replace S := Lib.hid (S.out.new (b := b1) (by omega) 4 (.int .i64 y))
        replace G := Gr.new G (b := b1) (by omega) 4 (.int .i64 y)
        generalize w4.setCell ⟨b1, 4, none⟩ (.int .i64 y) = w5 at *
        go_wp2_with fail
        refine post_cell1 (v := .agg #[.int .i64 (h), .int .i64 (l), .int .i64 (r), .int .i64 (lo), .int .i64 (y)]) Try.results111 rfl rfl (load5h (put5 c0 _ _ _ _ _)) ?_
        exact ⟨_, _, _, _, _, trivial, rfl, by (repeat (first | exact S.out | with_reducible refine Src.al ?_ _ | with_reducible refine Src.dr ?_ _ | with_reducible refine Src.drw ?_ | ((with_reducible refine Src.new ?_ ?_ _ _); rotate_left; focus omega))), by (repeat (first | exact G | with_reducible refine Gr.al ?_ _ | with_reducible refine Gr.dr ?_ _ | with_reducible refine Gr.drw ?_ | ((with_reducible refine Gr.new ?_ ?_ _ _); rotate_left; focus omega)))⟩
    · go_wp2_with fail
      (refine (spec_PickN g _ 4 _ [_, _, _, _] _ (by (repeat (first | exact S.out | with_reducible refine Src.al ?_ _ | with_reducible refine Src.dr ?_ _ | with_reducible refine Src.drw ?_ | ((with_reducible refine Src.new ?_ ?_ _ _); rotate_left; focus omega)))) rfl (by decide) (cell_new _ _ _) (by first | omega | (simp; omega))).mono ?_)
      rintro e w4 ⟨y, hy, rfl, hs, hg⟩
      replace G : w.grownBy w4 (some g) := Gr.tr (by (repeat (first | exact G | with_reducible refine Gr.al ?_ _ | with_reducible refine Gr.dr ?_ _ | with_reducible refine Gr.drw ?_ | ((with_reducible refine Gr.new ?_ ?_ _ _); rotate_left; focus omega)))) hg
      first | replace fc0 := frz_gr fc0 (by omega) (by omega) hg | replace fc0 := frz_gr (frz_alloc fc0 (by omega) _) (by simp; omega) (by omega) hg
      first | replace c0 := cell_gr c0 (by simp) (by omega) hg | replace c0 := cell_gr (cell_alloc c0 (by omega) _) (by simp) (by omega) hg
      replace zc0 := lt_cell c0 (by simp)
      first | replace fc1 := frz_gr fc1 (by omega) (by omega) hg | replace fc1 := frz_gr (frz_alloc fc1 (by omega) _) (by simp; omega) (by omega) hg
      first | replace c1 := cell_gr c1 (by simp) (by omega) hg | replace c1 := cell_gr (cell_alloc c1 (by omega) _) (by simp) (by omega) hg
      replace zc1 := lt_cell c1 (by simp)
      clear S
      have S := Lib.hid hs
      have zG := G.size
      clear hs hg
      clear hy
      go_upto_region 9 with fail
      replace fc0 := frz_put fc0 (g' := b1) 1 (.int .i64 y)
      replace c0 := cell_far c0 (g' := b1) (by omega) 1 (.int .i64 y)
      replace zc0 := lt_cell c0 (by simp)
      replace fc1 := frz_put fc1 (g' := b1) 1 (.int .i64 y)
      replace c1 := one5_1 c1 (.int .i64 y)
      replace zc1 := lt_cell c1 (by simp)
      replace S := Lib.hid (S.out.new (b := b1) (by omega) 1 (.int .i64 y))
      replace G := Gr.new G (b := b1) (by omega) 1 (.int .i64 y)
      generalize w4.setCell ⟨b1, 1, none⟩ (.int .i64 y) = w5 at *
      go_wp2_with fail
      refine post_cell1 (v := .agg #[.int .i64 (h), .int .i64 (y), .int .i64 (r), .int .i64 (lo), .int .i64 (ro)]) Try.results111 rfl rfl (load5h (put5 c0 _ _ _ _ _)) ?_
      exact ⟨_, _, _, _, _, trivial, rfl, by (repeat (first | exact S.out | with_reducible refine Src.al ?_ _ | with_reducible refine Src.dr ?_ _ | with_reducible refine Src.drw ?_ | ((with_reducible refine Src.new ?_ ?_ _ _); rotate_left; focus omega))), by (repeat (first | exact G | with_reducible refine Gr.al ?_ _ | with_reducible refine Gr.dr ?_ _ | with_reducible refine Gr.drw ?_ | ((with_reducible refine Gr.new ?_ ?_ _ _); rotate_left; focus omega)))⟩
  · go_wp2_with fail
    (refine (spec_PickN g _ 4 _ [_, _, _, _] _ (by (repeat (first | exact S.out | with_reducible refine Src.al ?_ _ | with_reducible refine Src.dr ?_ _ | with_reducible refine Src.drw ?_ | ((with_reducible refine Src.new ?_ ?_ _ _); rotate_left; focus omega)))) rfl (by decide) (cell_new _ _ _) (by first | omega | (simp; omega))).mono ?_)
    rintro e w4 ⟨y, hy, rfl, hs, hg⟩
    replace G : w.grownBy w4 (some g) := Gr.tr (by (repeat (first | exact G | with_reducible refine Gr.al ?_ _ | with_reducible refine Gr.dr ?_ _ | with_reducible refine Gr.drw ?_ | ((with_reducible refine Gr.new ?_ ?_ _ _); rotate_left; focus omega)))) hg
    first | replace fc0 := frz_gr fc0 (by omega) (by omega) hg | replace fc0 := frz_gr (frz_alloc fc0 (by omega) _) (by simp; omega) (by omega) hg
    first | replace c0 := cell_gr c0 (by simp) (by omega) hg | replace c0 := cell_gr (cell_alloc c0 (by omega) _) (by simp) (by omega) hg
    replace zc0 := lt_cell c0 (by simp)
    first | replace fc1 := frz_gr fc1 (by omega) (by omega) hg | replace fc1 := frz_gr (frz_alloc fc1 (by omega) _) (by simp; omega) (by omega) hg
    first | replace c1 := cell_gr c1 (by simp) (by omega) hg | replace c1 := cell_gr (cell_alloc c1 (by omega) _) (by simp) (by omega) hg
    replace zc1 := lt_cell c1 (by simp)
    clear S
    have S := Lib.hid hs
    have zG := G.size
    clear hs hg
    clear hy
    go_upto_region 9 with fail
    replace fc0 := frz_put fc0 (g' := b1) 0 (.int .i64 y)
    replace c0 := cell_far c0 (g' := b1) (by omega) 0 (.int .i64 y)
    replace zc0 := lt_cell c0 (by simp)
    replace fc1 := frz_put fc1 (g' := b1) 0 (.int .i64 y)
    replace c1 := one5_0 c1 (.int .i64 y)
    replace zc1 := lt_cell c1 (by simp)
    replace S := Lib.hid (S.out.new (b := b1) (by omega) 0 (.int .i64 y))
    replace G := Gr.new G (b := b1) (by omega) 0 (.int .i64 y)
    generalize w4.setCell ⟨b1, 0, none⟩ (.int .i64 y) = w5 at *
    go_wp2_with fail
    refine post_cell1 (v := .agg #[.int .i64 (y), .int .i64 (l), .int .i64 (r), .int .i64 (lo), .int .i64 (ro)]) Try.results111 rfl rfl (load5h (put5 c0 _ _ _ _ _)) ?_
    exact ⟨_, _, _, _, _, trivial, rfl, by (repeat (first | exact S.out | with_reducible refine Src.al ?_ _ | with_reducible refine Src.dr ?_ _ | with_reducible refine Src.drw ?_ | ((with_reducible refine Src.new ?_ ?_ _ _); rotate_left; focus omega))), by (repeat (first | exact G | with_reducible refine Gr.al ?_ _ | with_reducible refine Gr.dr ?_ _ | with_reducible refine Gr.drw ?_ | ((with_reducible refine Gr.new ?_ ?_ _ _); rotate_left; focus omega)))⟩

end Go.Proofs.Ytpejbmfapdocaaa
