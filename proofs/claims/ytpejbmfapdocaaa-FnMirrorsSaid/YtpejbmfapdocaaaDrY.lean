/- Rims drawn. Conditions: those that the theorem names. -/
import Derived.Test.YtpejbmfapdocaaaDrW
namespace Go.Proofs.Ytpejbmfapdocaaa
open Go.RowKit

theorem load3r {w : World} {g : Nat} {v0 v1 v2 : Value} (h : ∀ i, w.cell? ⟨g, i, none⟩ = #[v0, v1, v2][i]?) : (loadVar 62 ⟨g, 0, none⟩).run Try.prog w = .ok (.agg #[v0, v1, v2]) w := by
  simp [go_sem, h]
set_option maxRecDepth 100000 in
set_option maxHeartbeats 2000000 in
theorem spec_l04Rim (g : Nat) (n : Int) (w : World) (hs : Src w g) : Calls Try.prog 136 #[.pointer (some ⟨g, 0, none⟩), .int .i64 n] w (RimP g w) := by
  have hgw := hs.lt
  have S := Lib.hid hs
  have G := Gr.refl w g
  have zG := G.size
  clear hs
  go_enter Try.func136, Try.ntmps136
  go_upto_region 1 with fail
  have c0 := cell_new w #[Value.int .i64 0, Value.int .i64 0, Value.int .i64 0] 62
  have fc0 := frz_new w #[Value.int .i64 0, Value.int .i64 0, Value.int .i64 0] 62
  have zc0 := lt_cell c0 (by simp)
  go_wp2_with fail
  (with_reducible refine (spec_Next g 1700 _ (by (repeat (first | exact S.out | with_reducible refine Src.al ?_ _ | with_reducible refine Src.dr ?_ _ | with_reducible refine Src.drw ?_ | ((with_reducible refine Src.new ?_ ?_ _ _); rotate_left; focus omega)))) (by omega)).mono ?_)
  rintro e w1 ⟨x1, hx1, rfl, hs, hg⟩
  replace G : w.grownBy w1 (some g) := Gr.tr (by (repeat (first | exact G | with_reducible refine Gr.al ?_ _ | with_reducible refine Gr.dr ?_ _ | with_reducible refine Gr.drw ?_ | ((with_reducible refine Gr.new ?_ ?_ _ _); rotate_left; focus omega)))) hg
  first | replace fc0 := frz_gr fc0 (by omega) (by omega) hg | replace fc0 := frz_gr (frz_alloc fc0 (by omega) _) (by simp; omega) (by omega) hg
  first | replace c0 := cell_gr c0 (by simp) (by omega) hg | replace c0 := cell_gr (cell_alloc c0 (by omega) _) (by simp) (by omega) hg
  replace zc0 := lt_cell c0 (by simp)
  clear S
  have S := Lib.hid hs
  have zG := G.size
  clear hs hg
  obtain ⟨u1, v1⟩ := next_in (m := 1699) hx1 (by omega) (by omega)
  clear hx1
  go_wp2_with fail
  (with_reducible refine (spec_Next g 61 _ (by (repeat (first | exact S.out | with_reducible refine Src.al ?_ _ | with_reducible refine Src.dr ?_ _ | with_reducible refine Src.drw ?_ | ((with_reducible refine Src.new ?_ ?_ _ _); rotate_left; focus omega)))) (by omega)).mono ?_)
  rintro e w2 ⟨x2, hx2, rfl, hs, hg⟩
  replace G : w.grownBy w2 (some g) := Gr.tr (by (repeat (first | exact G | with_reducible refine Gr.al ?_ _ | with_reducible refine Gr.dr ?_ _ | with_reducible refine Gr.drw ?_ | ((with_reducible refine Gr.new ?_ ?_ _ _); rotate_left; focus omega)))) hg
  first | replace fc0 := frz_gr fc0 (by omega) (by omega) hg | replace fc0 := frz_gr (frz_alloc fc0 (by omega) _) (by simp; omega) (by omega) hg
  first | replace c0 := cell_gr c0 (by simp) (by omega) hg | replace c0 := cell_gr (cell_alloc c0 (by omega) _) (by simp) (by omega) hg
  replace zc0 := lt_cell c0 (by simp)
  clear S
  have S := Lib.hid hs
  have zG := G.size
  clear hs hg
  clear hx2
  go_wp2_with fail
  (refine (spec_PickN g _ 3 _ [_, _, _] _ (by (repeat (first | exact S.out | with_reducible refine Src.al ?_ _ | with_reducible refine Src.dr ?_ _ | with_reducible refine Src.drw ?_ | ((with_reducible refine Src.new ?_ ?_ _ _); rotate_left; focus omega)))) rfl (by decide) (cell_new _ _ _) (by first | omega | (simp; omega))).mono ?_)
  rintro e w3 ⟨x3, hx3, rfl, hs, hg⟩
  replace G : w.grownBy w3 (some g) := Gr.tr (by (repeat (first | exact G | with_reducible refine Gr.al ?_ _ | with_reducible refine Gr.dr ?_ _ | with_reducible refine Gr.drw ?_ | ((with_reducible refine Gr.new ?_ ?_ _ _); rotate_left; focus omega)))) hg
  first | replace fc0 := frz_gr fc0 (by omega) (by omega) hg | replace fc0 := frz_gr (frz_alloc fc0 (by omega) _) (by simp; omega) (by omega) hg
  first | replace c0 := cell_gr c0 (by simp) (by omega) hg | replace c0 := cell_gr (cell_alloc c0 (by omega) _) (by simp) (by omega) hg
  replace zc0 := lt_cell c0 (by simp)
  clear S
  have S := Lib.hid hs
  have zG := G.size
  clear hs hg
  clear hx3
  go_upto_region 2 with fail
  generalize 4500 + x1 = d at *
  clear u1 v1
  first | have lc1 : w.heap.size < w3.heap.size := by omega | have lc1 : w.heap.size ≤ w3.heap.size := by omega
  replace fc0 := frz_alloc fc0 (by omega) (.cells #[Value.int .i64 n, Value.int .i64 d, Value.int .i64 x3] 62)
  replace c0 := cell_alloc c0 (by omega) (.cells #[Value.int .i64 n, Value.int .i64 d, Value.int .i64 x3] 62)
  replace zc0 := lt_cell c0 (by simp)
  have c1 := cell_new w3 #[Value.int .i64 n, Value.int .i64 d, Value.int .i64 x3] 62
  have fc1 := frz_new w3 #[Value.int .i64 n, Value.int .i64 d, Value.int .i64 x3] 62
  replace G : w.grownBy (w3.alloc (.cells #[Value.int .i64 n, Value.int .i64 d, Value.int .i64 x3] 62)) (some g) := Gr.al G _
  replace S := Lib.hid (S.out.al (.cells #[Value.int .i64 n, Value.int .i64 d, Value.int .i64 x3] 62))
  have zc1 := lt_cell c1 (by simp)
  generalize w3.alloc (.cells #[Value.int .i64 n, Value.int .i64 d, Value.int .i64 x3] 62) = w4 at *
  generalize w3.heap.size = b1 at *
  try have nc1 : ¬ b1 = w.heap.size := by omega
  try have mc1 : ¬ w.heap.size = b1 := by omega
  go_wp2_with fail
  (with_reducible refine (spec_Next g 30 _ (by (repeat (first | exact S.out | with_reducible refine Src.al ?_ _ | with_reducible refine Src.dr ?_ _ | with_reducible refine Src.drw ?_ | ((with_reducible refine Src.new ?_ ?_ _ _); rotate_left; focus omega)))) (by omega)).mono ?_)
  rintro e w5 ⟨x, hx, rfl, hs, hg⟩
  replace G : w.grownBy w5 (some g) := Gr.tr (by (repeat (first | exact G | with_reducible refine Gr.al ?_ _ | with_reducible refine Gr.dr ?_ _ | with_reducible refine Gr.drw ?_ | ((with_reducible refine Gr.new ?_ ?_ _ _); rotate_left; focus omega)))) hg
  first | replace fc0 := frz_gr fc0 (by omega) (by omega) hg | replace fc0 := frz_gr (frz_alloc fc0 (by omega) _) (by simp; omega) (by omega) hg
  first | replace c0 := cell_gr c0 (by simp) (by omega) hg | replace c0 := cell_gr (cell_alloc c0 (by omega) _) (by simp) (by omega) hg
  replace zc0 := lt_cell c0 (by simp)
  first | replace fc1 := frz_gr fc1 (by omega) (by omega) hg | replace fc1 := frz_gr (frz_alloc fc1 (by omega) _) (by simp; omega) (by omega) hg
  first | replace c1 := cell_gr c1 (by simp) (by omega) hg | replace c1 := cell_gr (cell_alloc c1 (by omega) _) (by simp) (by omega) hg
  replace zc1 := lt_cell c1 (by simp)
  clear S
  have S := Lib.hid hs
  have zG := G.size
  clear hs hg
  clear hx
  rcases e0 : (x == 0) with _ | _
  · rcases e1 : (x == 1) with _ | _
    · rcases e2 : (x == 2) with _ | _
      · go_wp2_with fail
        refine post_cell1 (v := .agg #[.int .i64 (n), .int .i64 (d), .int .i64 (x3)]) Try.results136 rfl rfl (load3r (put3 c0 _ _ _)) ?_
        exact ⟨_, _, _, rfl, by (repeat (first | exact S.out | with_reducible refine Src.al ?_ _ | with_reducible refine Src.dr ?_ _ | with_reducible refine Src.drw ?_ | ((with_reducible refine Src.new ?_ ?_ _ _); rotate_left; focus omega))), by (repeat (first | exact G | with_reducible refine Gr.al ?_ _ | with_reducible refine Gr.dr ?_ _ | with_reducible refine Gr.drw ?_ | ((with_reducible refine Gr.new ?_ ?_ _ _); rotate_left; focus omega)))⟩
      · go_wp2_with fail
        (refine (spec_PickN g _ 2 _ [_, _] _ (by (repeat (first | exact S.out | with_reducible refine Src.al ?_ _ | with_reducible refine Src.dr ?_ _ | with_reducible refine Src.drw ?_ | ((with_reducible refine Src.new ?_ ?_ _ _); rotate_left; focus omega)))) rfl (by decide) (cell_new _ _ _) (by first | omega | (simp; omega))).mono ?_)
        rintro e w6 ⟨y, hy, rfl, hs, hg⟩
        replace G : w.grownBy w6 (some g) := Gr.tr (by (repeat (first | exact G | with_reducible refine Gr.al ?_ _ | with_reducible refine Gr.dr ?_ _ | with_reducible refine Gr.drw ?_ | ((with_reducible refine Gr.new ?_ ?_ _ _); rotate_left; focus omega)))) hg
        first | replace fc0 := frz_gr fc0 (by omega) (by omega) hg | replace fc0 := frz_gr (frz_alloc fc0 (by omega) _) (by simp; omega) (by omega) hg
        first | replace c0 := cell_gr c0 (by simp) (by omega) hg | replace c0 := cell_gr (cell_alloc c0 (by omega) _) (by simp) (by omega) hg
        replace zc0 := lt_cell c0 (by simp)
        first | replace fc1 := frz_gr fc1 (by omega) (by omega) hg | replace fc1 := frz_gr (frz_alloc fc1 (by omega) _) (by simp; omega) (by omega) hg
        first | replace c1 := cell_gr c1 (by simp) (by omega) hg | replace c1 := cell_gr (cell_alloc c1 (by omega) _) (by simp) (by omega) hg
        replace zc1 := lt_cell c1 (by simp)
        clear S
        have S := Lib.hid hs
        have zG := G.size
        clear hs hg
        clear hy
        go_wp2_with fail
        refine post_cell1 (v := .agg #[.int .i64 (y), .int .i64 (d), .int .i64 (x3)]) Try.results136 rfl rfl (load3r (put3 (cell_far c0 nc1 0 (.int .i64 y)) _ _ _)) ?_
        exact ⟨_, _, _, rfl, by (repeat (first | exact S.out | with_reducible refine Src.al ?_ _ | with_reducible refine Src.dr ?_ _ | with_reducible refine Src.drw ?_ | ((with_reducible refine Src.new ?_ ?_ _ _); rotate_left; focus omega))), by (repeat (first | exact G | with_reducible refine Gr.al ?_ _ | with_reducible refine Gr.dr ?_ _ | with_reducible refine Gr.drw ?_ | ((with_reducible refine Gr.new ?_ ?_ _ _); rotate_left; focus omega)))⟩
    · go_wp2_with fail
      (refine (spec_PickN g _ 4 _ [_, _, _, _] _ (by (repeat (first | exact S.out | with_reducible refine Src.al ?_ _ | with_reducible refine Src.dr ?_ _ | with_reducible refine Src.drw ?_ | ((with_reducible refine Src.new ?_ ?_ _ _); rotate_left; focus omega)))) rfl (by decide) (cell_new _ _ _) (by first | omega | (simp; omega))).mono ?_)
      rintro e w6 ⟨y, hy, rfl, hs, hg⟩
      replace G : w.grownBy w6 (some g) := Gr.tr (by (repeat (first | exact G | with_reducible refine Gr.al ?_ _ | with_reducible refine Gr.dr ?_ _ | with_reducible refine Gr.drw ?_ | ((with_reducible refine Gr.new ?_ ?_ _ _); rotate_left; focus omega)))) hg
      first | replace fc0 := frz_gr fc0 (by omega) (by omega) hg | replace fc0 := frz_gr (frz_alloc fc0 (by omega) _) (by simp; omega) (by omega) hg
      first | replace c0 := cell_gr c0 (by simp) (by omega) hg | replace c0 := cell_gr (cell_alloc c0 (by omega) _) (by simp) (by omega) hg
      replace zc0 := lt_cell c0 (by simp)
      first | replace fc1 := frz_gr fc1 (by omega) (by omega) hg | replace fc1 := frz_gr (frz_alloc fc1 (by omega) _) (by simp; omega) (by omega) hg
      first | replace c1 := cell_gr c1 (by simp) (by omega) hg | replace c1 := cell_gr (cell_alloc c1 (by omega) _) (by simp) (by omega) hg
      replace zc1 := lt_cell c1 (by simp)
      clear S
      have S := Lib.hid hs
      have zG := G.size
      clear hs hg
      clear hy
      go_wp2_with fail
      refine post_cell1 (v := .agg #[.int .i64 (n), .int .i64 (d), .int .i64 (y)]) Try.results136 rfl rfl (load3r (put3 (cell_far c0 nc1 2 (.int .i64 y)) _ _ _)) ?_
      exact ⟨_, _, _, rfl, by (repeat (first | exact S.out | with_reducible refine Src.al ?_ _ | with_reducible refine Src.dr ?_ _ | with_reducible refine Src.drw ?_ | ((with_reducible refine Src.new ?_ ?_ _ _); rotate_left; focus omega))), by (repeat (first | exact G | with_reducible refine Gr.al ?_ _ | with_reducible refine Gr.dr ?_ _ | with_reducible refine Gr.drw ?_ | ((with_reducible refine Gr.new ?_ ?_ _ _); rotate_left; focus omega)))⟩
  · go_wp2_with fail
    (refine (spec_PickN g _ 4 _ [_, _, _, _] _ (by (repeat (first | exact S.out | with_reducible refine Src.al ?_ _ | with_reducible refine Src.dr ?_ _ | with_reducible refine Src.drw ?_ | ((with_reducible refine Src.new ?_ ?_ _ _); rotate_left; focus omega)))) rfl (by decide) (cell_new _ _ _) (by first | omega | (simp; omega))).mono ?_)
    rintro e w6 ⟨y, hy, rfl, hs, hg⟩
    replace G : w.grownBy w6 (some g) := Gr.tr (by (repeat (first | exact G | with_reducible refine Gr.al ?_ _ | with_reducible refine Gr.dr ?_ _ | with_reducible refine Gr.drw ?_ | ((with_reducible refine Gr.new ?_ ?_ _ _); rotate_left; focus omega)))) hg
    first | replace fc0 := frz_gr fc0 (by omega) (by omega) hg | replace fc0 := frz_gr (frz_alloc fc0 (by omega) _) (by simp; omega) (by omega) hg
    first | replace c0 := cell_gr c0 (by simp) (by omega) hg | replace c0 := cell_gr (cell_alloc c0 (by omega) _) (by simp) (by omega) hg
    replace zc0 := lt_cell c0 (by simp)
    first | replace fc1 := frz_gr fc1 (by omega) (by omega) hg | replace fc1 := frz_gr (frz_alloc fc1 (by omega) _) (by simp; omega) (by omega) hg
    first | replace c1 := cell_gr c1 (by simp) (by omega) hg | replace c1 := cell_gr (cell_alloc c1 (by omega) _) (by simp) (by omega) hg
    replace zc1 := lt_cell c1 (by simp)
    clear S
    have S := Lib.hid hs
    have zG := G.size
    clear hs hg
    clear hy
    go_wp2_with fail
    refine post_cell1 (v := .agg #[.int .i64 (n), .int .i64 (y), .int .i64 (x3)]) Try.results136 rfl rfl (load3r (put3 (cell_far c0 nc1 1 (.int .i64 y)) _ _ _)) ?_
    exact ⟨_, _, _, rfl, by (repeat (first | exact S.out | with_reducible refine Src.al ?_ _ | with_reducible refine Src.dr ?_ _ | with_reducible refine Src.drw ?_ | ((with_reducible refine Src.new ?_ ?_ _ _); rotate_left; focus omega))), by (repeat (first | exact G | with_reducible refine Gr.al ?_ _ | with_reducible refine Gr.dr ?_ _ | with_reducible refine Gr.drw ?_ | ((with_reducible refine Gr.new ?_ ?_ _ _); rotate_left; focus omega)))⟩

end Go.Proofs.Ytpejbmfapdocaaa
