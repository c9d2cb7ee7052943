/- Intervals drawn. Conditions: those that each theorem names. -/
import Derived.Test.YtpejbmfapdocaaaDr
namespace Go.Proofs.Ytpejbmfapdocaaa
open Go.RowKit

def IvP (g : Nat) (w : World) (e : Ending) (w' : World) : Prop := ∃ a b : Int, e = .returned (.agg #[.int .i64 a, .int .i64 b]) ∧ Src w' g ∧ w.grownBy w' (some g)
set_option maxHeartbeats 4000000 in
theorem spec_l02Good (g : Nat) (w : World) (hs : Src w g) : Calls Try.prog 150 #[.pointer (some ⟨g, 0, none⟩)] w (IvP g w) := by
  have hgw := hs.lt
  have S := Lib.hid hs
  have G := Gr.refl w g
  have zG := G.size
  clear hs
  go_enter Try.func150, Try.ntmps150
  go_upto_region 1 with fail
  have c0 := cell_new w #[Value.int .i64 0, .int .i64 0] 40
  have fc0 := frz_new w #[Value.int .i64 0, .int .i64 0] 40
  have zc0 := lt_cell c0 (by simp)
  go_wp2_with fail
  (with_reducible refine (spec_Next g 2001 _ (by (repeat (first | exact S.out | with_reducible refine Src.al ?_ _ | with_reducible refine Src.dr ?_ _ | with_reducible refine Src.drw ?_ | ((with_reducible refine Src.new ?_ ?_ _ _); rotate_left; focus omega)))) (by omega)).mono ?_)
  rintro e w1 ⟨x1, hx1, rfl, hs, hg⟩
  replace G : w.grownBy w1 (some g) := Gr.tr (by (repeat (first | exact G | with_reducible refine Gr.al ?_ _ | with_reducible refine Gr.dr ?_ _ | with_reducible refine Gr.drw ?_ | ((with_reducible refine Gr.new ?_ ?_ _ _); rotate_left; focus omega)))) hg
  first | replace fc0 := frz_gr fc0 (by omega) (by omega) hg | replace fc0 := frz_gr (frz_alloc fc0 (by omega) _) (by simp; omega) (by omega) hg
  first | replace c0 := cell_gr c0 (by simp) (by omega) hg | replace c0 := cell_gr (cell_alloc c0 (by omega) _) (by simp) (by omega) hg
  replace zc0 := lt_cell c0 (by simp)
  clear S
  have S := Lib.hid hs
  have zG := G.size
  clear hs hg
  go_wp2_with fail
  (with_reducible refine (spec_Next g 60001 _ (by (repeat (first | exact S.out | with_reducible refine Src.al ?_ _ | with_reducible refine Src.dr ?_ _ | with_reducible refine Src.drw ?_ | ((with_reducible refine Src.new ?_ ?_ _ _); rotate_left; focus omega)))) (by omega)).mono ?_)
  rintro e w2 ⟨x2, hx2, rfl, hs, hg⟩
  replace G : w.grownBy w2 (some g) := Gr.tr (by (repeat (first | exact G | with_reducible refine Gr.al ?_ _ | with_reducible refine Gr.dr ?_ _ | with_reducible refine Gr.drw ?_ | ((with_reducible refine Gr.new ?_ ?_ _ _); rotate_left; focus omega)))) hg
  first | replace fc0 := frz_gr fc0 (by omega) (by omega) hg | replace fc0 := frz_gr (frz_alloc fc0 (by omega) _) (by simp; omega) (by omega) hg
  first | replace c0 := cell_gr c0 (by simp) (by omega) hg | replace c0 := cell_gr (cell_alloc c0 (by omega) _) (by simp) (by omega) hg
  replace zc0 := lt_cell c0 (by simp)
  clear S
  have S := Lib.hid hs
  have zG := G.size
  clear hs hg
  go_wp2_with fail
  (with_reducible refine (spec_Next g 41 _ (by (repeat (first | exact S.out | with_reducible refine Src.al ?_ _ | with_reducible refine Src.dr ?_ _ | with_reducible refine Src.drw ?_ | ((with_reducible refine Src.new ?_ ?_ _ _); rotate_left; focus omega)))) (by omega)).mono ?_)
  rintro e w3 ⟨x3, hx3, rfl, hs, hg⟩
  replace G : w.grownBy w3 (some g) := Gr.tr (by (repeat (first | exact G | with_reducible refine Gr.al ?_ _ | with_reducible refine Gr.dr ?_ _ | with_reducible refine Gr.drw ?_ | ((with_reducible refine Gr.new ?_ ?_ _ _); rotate_left; focus omega)))) hg
  first | replace fc0 := frz_gr fc0 (by omega) (by omega) hg | replace fc0 := frz_gr (frz_alloc fc0 (by omega) _) (by simp; omega) (by omega) hg
  first | replace c0 := cell_gr c0 (by simp) (by omega) hg | replace c0 := cell_gr (cell_alloc c0 (by omega) _) (by simp) (by omega) hg
  replace zc0 := lt_cell c0 (by simp)
  clear S
  have S := Lib.hid hs
  have zG := G.size
  clear hs hg
  go_wp2_with fail
  (refine (spec_PickN g _ 3 _ [_, _, _] _ (by (repeat (first | exact S.out | with_reducible refine Src.al ?_ _ | with_reducible refine Src.dr ?_ _ | with_reducible refine Src.drw ?_ | ((with_reducible refine Src.new ?_ ?_ _ _); rotate_left; focus omega)))) rfl (by decide) (cell_new _ _ _) (by first | omega | (simp; omega))).mono ?_)
  rintro e w4 ⟨x4, hx4, rfl, hs, hg⟩
  replace G : w.grownBy w4 (some g) := Gr.tr (by (repeat (first | exact G | with_reducible refine Gr.al ?_ _ | with_reducible refine Gr.dr ?_ _ | with_reducible refine Gr.drw ?_ | ((with_reducible refine Gr.new ?_ ?_ _ _); rotate_left; focus omega)))) hg
  first | replace fc0 := frz_gr fc0 (by omega) (by omega) hg | replace fc0 := frz_gr (frz_alloc fc0 (by omega) _) (by simp; omega) (by omega) hg
  first | replace c0 := cell_gr c0 (by simp) (by omega) hg | replace c0 := cell_gr (cell_alloc c0 (by omega) _) (by simp) (by omega) hg
  replace zc0 := lt_cell c0 (by simp)
  clear S
  have S := Lib.hid hs
  have zG := G.size
  clear hs hg
  clear hx1 hx2 hx3 hx4
  go_wp2_with fail
  (with_reducible refine (spec_Next g 200 _ (by (repeat (first | exact S.out | with_reducible refine Src.al ?_ _ | with_reducible refine Src.dr ?_ _ | with_reducible refine Src.drw ?_ | ((with_reducible refine Src.new ?_ ?_ _ _); rotate_left; focus omega)))) (by omega)).mono ?_)
  rintro e w5 ⟨x5, hx5, rfl, hs, hg⟩
  replace G : w.grownBy w5 (some g) := Gr.tr (by (repeat (first | exact G | with_reducible refine Gr.al ?_ _ | with_reducible refine Gr.dr ?_ _ | with_reducible refine Gr.drw ?_ | ((with_reducible refine Gr.new ?_ ?_ _ _); rotate_left; focus omega)))) hg
  first | replace fc0 := frz_gr fc0 (by omega) (by omega) hg | replace fc0 := frz_gr (frz_alloc fc0 (by omega) _) (by simp; omega) (by omega) hg
  first | replace c0 := cell_gr c0 (by simp) (by omega) hg | replace c0 := cell_gr (cell_alloc c0 (by omega) _) (by simp) (by omega) hg
  replace zc0 := lt_cell c0 (by simp)
  clear S
  have S := Lib.hid hs
  have zG := G.size
  clear hs hg
  go_wp2_with fail
  (with_reducible refine (spec_Next g 5000 _ (by (repeat (first | exact S.out | with_reducible refine Src.al ?_ _ | with_reducible refine Src.dr ?_ _ | with_reducible refine Src.drw ?_ | ((with_reducible refine Src.new ?_ ?_ _ _); rotate_left; focus omega)))) (by omega)).mono ?_)
  rintro e w6 ⟨x6, hx6, rfl, hs, hg⟩
  replace G : w.grownBy w6 (some g) := Gr.tr (by (repeat (first | exact G | with_reducible refine Gr.al ?_ _ | with_reducible refine Gr.dr ?_ _ | with_reducible refine Gr.drw ?_ | ((with_reducible refine Gr.new ?_ ?_ _ _); rotate_left; focus omega)))) hg
  first | replace fc0 := frz_gr fc0 (by omega) (by omega) hg | replace fc0 := frz_gr (frz_alloc fc0 (by omega) _) (by simp; omega) (by omega) hg
  first | replace c0 := cell_gr c0 (by simp) (by omega) hg | replace c0 := cell_gr (cell_alloc c0 (by omega) _) (by simp) (by omega) hg
  replace zc0 := lt_cell c0 (by simp)
  clear S
  have S := Lib.hid hs
  have zG := G.size
  clear hs hg
  go_wp2_with fail
  (refine (spec_PickN g _ 3 _ [_, _, _] _ (by (repeat (first | exact S.out | with_reducible refine Src.al ?_ _ | with_reducible refine Src.dr ?_ _ | with_reducible refine Src.drw ?_ | ((with_reducible refine Src.new ?_ ?_ _ _); rotate_left; focus omega)))) rfl (by decide) (cell_new _ _ _) (by first | omega | (simp; omega))).mono ?_)
  rintro e w7 ⟨x7, hx7, rfl, hs, hg⟩
  replace G : w.grownBy w7 (some g) := Gr.tr (by (repeat (first | exact G | with_reducible refine Gr.al ?_ _ | with_reducible refine Gr.dr ?_ _ | with_reducible refine Gr.drw ?_ | ((with_reducible refine Gr.new ?_ ?_ _ _); rotate_left; focus omega)))) hg
  first | replace fc0 := frz_gr fc0 (by omega) (by omega) hg | replace fc0 := frz_gr (frz_alloc fc0 (by omega) _) (by simp; omega) (by omega) hg
  first | replace c0 := cell_gr c0 (by simp) (by omega) hg | replace c0 := cell_gr (cell_alloc c0 (by omega) _) (by simp) (by omega) hg
  replace zc0 := lt_cell c0 (by simp)
  clear S
  have S := Lib.hid hs
  have zG := G.size
  clear hs hg
  clear hx5 hx6 hx7
  go_upto_region 3 with fail
  generalize wrap64 (x4 + x7) = y4 at *
  first | have lc1 : w.heap.size < w7.heap.size := by omega | have lc1 : w.heap.size ≤ w7.heap.size := by omega
  replace fc0 := frz_alloc fc0 (by omega) (.cells #[Value.int .i64 x4, Value.int .i64 y4] 40)
  replace c0 := cell_alloc c0 (by omega) (.cells #[Value.int .i64 x4, Value.int .i64 y4] 40)
  replace zc0 := lt_cell c0 (by simp)
  have c1 := cell_new w7 #[Value.int .i64 x4, Value.int .i64 y4] 40
  have fc1 := frz_new w7 #[Value.int .i64 x4, Value.int .i64 y4] 40
  replace G : w.grownBy (w7.alloc (.cells #[Value.int .i64 x4, Value.int .i64 y4] 40)) (some g) := Gr.al G _
  replace S := Lib.hid (S.out.al (.cells #[Value.int .i64 x4, Value.int .i64 y4] 40))
  have zc1 := lt_cell c1 (by simp)
  generalize w7.alloc (.cells #[Value.int .i64 x4, Value.int .i64 y4] 40) = w8 at *
  generalize w7.heap.size = b1 at *
  try have nc1 : ¬ b1 = w.heap.size := by omega
  try have mc1 : ¬ w.heap.size = b1 := by omega
  go_wp2_with fail
  (with_reducible refine (spec_Next g 20 _ (by (repeat (first | exact S.out | with_reducible refine Src.al ?_ _ | with_reducible refine Src.dr ?_ _ | with_reducible refine Src.drw ?_ | ((with_reducible refine Src.new ?_ ?_ _ _); rotate_left; focus omega)))) (by omega)).mono ?_)
  rintro e w9 ⟨x9, hx9, rfl, hs, hg⟩
  replace G : w.grownBy w9 (some g) := Gr.tr (by (repeat (first | exact G | with_reducible refine Gr.al ?_ _ | with_reducible refine Gr.dr ?_ _ | with_reducible refine Gr.drw ?_ | ((with_reducible refine Gr.new ?_ ?_ _ _); rotate_left; focus omega)))) hg
  first | replace fc0 := frz_gr fc0 (by omega) (by omega) hg | replace fc0 := frz_gr (frz_alloc fc0 (by omega) _) (by simp; omega) (by omega) hg
  first | replace c0 := cell_gr c0 (by simp) (by omega) hg | replace c0 := cell_gr (cell_alloc c0 (by omega) _) (by simp) (by omega) hg
  replace zc0 := lt_cell c0 (by simp)
  first | replace fc1 := frz_gr fc1 (by omega) (by omega) hg | replace fc1 := frz_gr (frz_alloc fc1 (by omega) _) (by simp; omega) (by omega) hg
  first | replace c1 := cell_gr c1 (by simp) (by omega) hg | replace c1 := cell_gr (cell_alloc c1 (by omega) _) (by simp) (by omega) hg
  replace zc1 := lt_cell c1 (by simp)
  clear S
  have S := Lib.hid hs
  have zG := G.size
  clear hs hg
  clear hx9
  rcases e9 : (x9 == 0) with _ | _
  · go_wp2_with fail
    refine bodyPost_ret (v := .agg #[.int .i64 x4, .int .i64 y4]) (by simp (maxDischargeDepth := 8) [results, Try.results150, go_sem, c0]) rfl ?_
    exact ⟨_, _, rfl, by (repeat (first | exact S.out | with_reducible refine Src.al ?_ _ | with_reducible refine Src.dr ?_ _ | with_reducible refine Src.drw ?_ | ((with_reducible refine Src.new ?_ ?_ _ _); rotate_left; focus omega))), by (repeat (first | exact G | with_reducible refine Gr.al ?_ _ | with_reducible refine Gr.dr ?_ _ | with_reducible refine Gr.drw ?_ | ((with_reducible refine Gr.new ?_ ?_ _ _); rotate_left; focus omega)))⟩
  · go_wp2_with fail
    (with_reducible refine (spec_Next g 1000000001 _ (by (repeat (first | exact S.out | with_reducible refine Src.al ?_ _ | with_reducible refine Src.dr ?_ _ | with_reducible refine Src.drw ?_ | ((with_reducible refine Src.new ?_ ?_ _ _); rotate_left; focus omega)))) (by omega)).mono ?_)
    rintro e w10 ⟨x10, hx10, rfl, hs, hg⟩
    replace G : w.grownBy w10 (some g) := Gr.tr (by (repeat (first | exact G | with_reducible refine Gr.al ?_ _ | with_reducible refine Gr.dr ?_ _ | with_reducible refine Gr.drw ?_ | ((with_reducible refine Gr.new ?_ ?_ _ _); rotate_left; focus omega)))) hg
    first | replace fc0 := frz_gr fc0 (by omega) (by omega) hg | replace fc0 := frz_gr (frz_alloc fc0 (by omega) _) (by simp; omega) (by omega) hg
    first | replace c0 := cell_gr c0 (by simp) (by omega) hg | replace c0 := cell_gr (cell_alloc c0 (by omega) _) (by simp) (by omega) hg
    replace zc0 := lt_cell c0 (by simp)
    clear S
    have S := Lib.hid hs
    have zG := G.size
    clear hs hg
    go_wp2_with fail
    (with_reducible refine (spec_Next g 1000000001 _ (by (repeat (first | exact S.out | with_reducible refine Src.al ?_ _ | with_reducible refine Src.dr ?_ _ | with_reducible refine Src.drw ?_ | ((with_reducible refine Src.new ?_ ?_ _ _); rotate_left; focus omega)))) (by omega)).mono ?_)
    rintro e w11 ⟨x11, hx11, rfl, hs, hg⟩
    replace G : w.grownBy w11 (some g) := Gr.tr (by (repeat (first | exact G | with_reducible refine Gr.al ?_ _ | with_reducible refine Gr.dr ?_ _ | with_reducible refine Gr.drw ?_ | ((with_reducible refine Gr.new ?_ ?_ _ _); rotate_left; focus omega)))) hg
    first | replace fc0 := frz_gr fc0 (by omega) (by omega) hg | replace fc0 := frz_gr (frz_alloc fc0 (by omega) _) (by simp; omega) (by omega) hg
    first | replace c0 := cell_gr c0 (by simp) (by omega) hg | replace c0 := cell_gr (cell_alloc c0 (by omega) _) (by simp) (by omega) hg
    replace zc0 := lt_cell c0 (by simp)
    clear S
    have S := Lib.hid hs
    have zG := G.size
    clear hs hg
    clear hx10 hx11
    go_wp2_with fail
    generalize wrap64 (-x10) = x12
    refine bodyPost_ret (v := .agg #[.int .i64 x12, .int .i64 x11]) (by simp (maxDischargeDepth := 8) [results, Try.results150, go_sem, c0]) rfl ?_
    exact ⟨_, _, rfl, by (repeat (first | exact S.out | with_reducible refine Src.al ?_ _ | with_reducible refine Src.dr ?_ _ | with_reducible refine Src.drw ?_ | ((with_reducible refine Src.new ?_ ?_ _ _); rotate_left; focus omega))), by (repeat (first | exact G | with_reducible refine Gr.al ?_ _ | with_reducible refine Gr.dr ?_ _ | with_reducible refine Gr.drw ?_ | ((with_reducible refine Gr.new ?_ ?_ _ _); rotate_left; focus omega)))⟩
set_option maxHeartbeats 4000000 in
theorem spec_l02Draw (g : Nat) (w : World) (hs : Src w g) : Calls Try.prog 121 #[.pointer (some ⟨g, 0, none⟩)] w (IvP g w) := by
  have hgw := hs.lt
  have S := Lib.hid hs
  have G := Gr.refl w g
  have zG := G.size
  clear hs
  go_enter Try.func121, Try.ntmps121
  go_upto_region 1 with fail
  have c0 := cell_new w #[Value.int .i64 0, .int .i64 0] 40
  have fc0 := frz_new w #[Value.int .i64 0, .int .i64 0] 40
  have zc0 := lt_cell c0 (by simp)
  go_wp2_with fail
  (with_reducible refine (spec_l02Good g _ (by (repeat (first | exact S.out | with_reducible refine Src.al ?_ _ | with_reducible refine Src.dr ?_ _ | with_reducible refine Src.drw ?_ | ((with_reducible refine Src.new ?_ ?_ _ _); rotate_left; focus omega))))).mono ?_)
  rintro e w1 ⟨a, b, rfl, hs, hg⟩
  replace G : w.grownBy w1 (some g) := Gr.tr (by (repeat (first | exact G | with_reducible refine Gr.al ?_ _ | with_reducible refine Gr.dr ?_ _ | with_reducible refine Gr.drw ?_ | ((with_reducible refine Gr.new ?_ ?_ _ _); rotate_left; focus omega)))) hg
  first | replace fc0 := frz_gr fc0 (by omega) (by omega) hg | replace fc0 := frz_gr (frz_alloc fc0 (by omega) _) (by simp; omega) (by omega) hg
  first | replace c0 := cell_gr c0 (by simp) (by omega) hg | replace c0 := cell_gr (cell_alloc c0 (by omega) _) (by simp) (by omega) hg
  replace zc0 := lt_cell c0 (by simp)
  clear S
  have S := Lib.hid hs
  have zG := G.size
  clear hs hg
  go_upto_region 2 with fail
  first | have lc1 : w.heap.size < w1.heap.size := by omega | have lc1 : w.heap.size ≤ w1.heap.size := by omega
  replace fc0 := frz_alloc fc0 (by omega) (.cells #[Value.int .i64 a, Value.int .i64 b] 40)
  replace c0 := cell_alloc c0 (by omega) (.cells #[Value.int .i64 a, Value.int .i64 b] 40)
  replace zc0 := lt_cell c0 (by simp)
  have c1 := cell_new w1 #[Value.int .i64 a, Value.int .i64 b] 40
  have fc1 := frz_new w1 #[Value.int .i64 a, Value.int .i64 b] 40
  replace G : w.grownBy (w1.alloc (.cells #[Value.int .i64 a, Value.int .i64 b] 40)) (some g) := Gr.al G _
  replace S := Lib.hid (S.out.al (.cells #[Value.int .i64 a, Value.int .i64 b] 40))
  have zc1 := lt_cell c1 (by simp)
  generalize w1.alloc (.cells #[Value.int .i64 a, Value.int .i64 b] 40) = w2 at *
  generalize w1.heap.size = b1 at *
  try have nc1 : ¬ b1 = w.heap.size := by omega
  try have mc1 : ¬ w.heap.size = b1 := by omega
  go_wp2_with fail
  (with_reducible refine (spec_Next g 30 _ (by (repeat (first | exact S.out | with_reducible refine Src.al ?_ _ | with_reducible refine Src.dr ?_ _ | with_reducible refine Src.drw ?_ | ((with_reducible refine Src.new ?_ ?_ _ _); rotate_left; focus omega)))) (by omega)).mono ?_)
  rintro e w3 ⟨x, hx, rfl, hs, hg⟩
  replace G : w.grownBy w3 (some g) := Gr.tr (by (repeat (first | exact G | with_reducible refine Gr.al ?_ _ | with_reducible refine Gr.dr ?_ _ | with_reducible refine Gr.drw ?_ | ((with_reducible refine Gr.new ?_ ?_ _ _); rotate_left; focus omega)))) hg
  first | replace fc0 := frz_gr fc0 (by omega) (by omega) hg | replace fc0 := frz_gr (frz_alloc fc0 (by omega) _) (by simp; omega) (by omega) hg
  first | replace c0 := cell_gr c0 (by simp) (by omega) hg | replace c0 := cell_gr (cell_alloc c0 (by omega) _) (by simp) (by omega) hg
  replace zc0 := lt_cell c0 (by simp)
  first | replace fc1 := frz_gr fc1 (by omega) (by omega) hg | replace fc1 := frz_gr (frz_alloc fc1 (by omega) _) (by simp; omega) (by omega) hg
  first | replace c1 := cell_gr c1 (by simp) (by omega) hg | replace c1 := cell_gr (cell_alloc c1 (by omega) _) (by simp) (by omega) hg
  replace zc1 := lt_cell c1 (by simp)
  clear S
  have S := Lib.hid hs
  have zG := G.size
  clear hs hg
  clear hx
  rcases e0 : (x == 0) with _ | _
  · rcases e1 : (x == 1) with _ | _
    · rcases e2 : (x == 2) with _ | _
      · go_wp2_with fail
        refine bodyPost_ret (v := .agg #[.int .i64 a, .int .i64 b]) (by simp (maxDischargeDepth := 8) [results, Try.results121, go_sem, c0]) rfl ?_
        exact ⟨_, _, rfl, by (repeat (first | exact S.out | with_reducible refine Src.al ?_ _ | with_reducible refine Src.dr ?_ _ | with_reducible refine Src.drw ?_ | ((with_reducible refine Src.new ?_ ?_ _ _); rotate_left; focus omega))), by (repeat (first | exact G | with_reducible refine Gr.al ?_ _ | with_reducible refine Gr.dr ?_ _ | with_reducible refine Gr.drw ?_ | ((with_reducible refine Gr.new ?_ ?_ _ _); rotate_left; focus omega)))⟩
      · go_wp2_with fail
        (refine (spec_PickN g _ 2 _ [_, _] _ (by (repeat (first | exact S.out | with_reducible refine Src.al ?_ _ | with_reducible refine Src.dr ?_ _ | with_reducible refine Src.drw ?_ | ((with_reducible refine Src.new ?_ ?_ _ _); rotate_left; focus omega)))) rfl (by decide) (cell_new _ _ _) (by first | omega | (simp; omega))).mono ?_)
        rintro e w4 ⟨y, hy, rfl, hs, hg⟩
        replace G : w.grownBy w4 (some g) := Gr.tr (by (repeat (first | exact G | with_reducible refine Gr.al ?_ _ | with_reducible refine Gr.dr ?_ _ | with_reducible refine Gr.drw ?_ | ((with_reducible refine Gr.new ?_ ?_ _ _); rotate_left; focus omega)))) hg
        first | replace fc0 := frz_gr fc0 (by omega) (by omega) hg | replace fc0 := frz_gr (frz_alloc fc0 (by omega) _) (by simp; omega) (by omega) hg
        first | replace c0 := cell_gr c0 (by simp) (by omega) hg | replace c0 := cell_gr (cell_alloc c0 (by omega) _) (by simp) (by omega) hg
        replace zc0 := lt_cell c0 (by simp)
        first | replace fc1 := frz_gr fc1 (by omega) (by omega) hg | replace fc1 := frz_gr (frz_alloc fc1 (by omega) _) (by simp; omega) (by omega) hg
        first | replace c1 := cell_gr c1 (by simp) (by omega) hg | replace c1 := cell_gr (cell_alloc c1 (by omega) _) (by simp) (by omega) hg
        replace zc1 := lt_cell c1 (by simp)
        clear S
        have S := Lib.hid hs
        have zG := G.size
        clear hs hg
        clear hy
        go_wp2_with fail
        refine bodyPost_ret (v := .agg #[.int .i64 y, .int .i64 b]) (by simp (maxDischargeDepth := 8) [results, Try.results121, go_sem, c0]) rfl ?_
        exact ⟨_, _, rfl, by (repeat (first | exact S.out | with_reducible refine Src.al ?_ _ | with_reducible refine Src.dr ?_ _ | with_reducible refine Src.drw ?_ | ((with_reducible refine Src.new ?_ ?_ _ _); rotate_left; focus omega))), by (repeat (first | exact G | with_reducible refine Gr.al ?_ _ | with_reducible refine Gr.dr ?_ _ | with_reducible refine Gr.drw ?_ | ((with_reducible refine Gr.new ?_ ?_ _ _); rotate_left; focus omega)))⟩
    · go_wp2_with fail
      (refine (spec_PickN g _ 2 _ [_, _] _ (by (repeat (first | exact S.out | with_reducible refine Src.al ?_ _ | with_reducible refine Src.dr ?_ _ | with_reducible refine Src.drw ?_ | ((with_reducible refine Src.new ?_ ?_ _ _); rotate_left; focus omega)))) rfl (by decide) (cell_new _ _ _) (by first | omega | (simp; omega))).mono ?_)
      rintro e w4 ⟨y, hy, rfl, hs, hg⟩
      replace G : w.grownBy w4 (some g) := Gr.tr (by (repeat (first | exact G | with_reducible refine Gr.al ?_ _ | with_reducible refine Gr.dr ?_ _ | with_reducible refine Gr.drw ?_ | ((with_reducible refine Gr.new ?_ ?_ _ _); rotate_left; focus omega)))) hg
      first | replace fc0 := frz_gr fc0 (by omega) (by omega) hg | replace fc0 := frz_gr (frz_alloc fc0 (by omega) _) (by simp; omega) (by omega) hg
      first | replace c0 := cell_gr c0 (by simp) (by omega) hg | replace c0 := cell_gr (cell_alloc c0 (by omega) _) (by simp) (by omega) hg
      replace zc0 := lt_cell c0 (by simp)
      first | replace fc1 := frz_gr fc1 (by omega) (by omega) hg | replace fc1 := frz_gr (frz_alloc fc1 (by omega) _) (by simp; omega) (by omega) hg
      first | replace c1 := cell_gr c1 (by simp) (by omega) hg | replace c1 := cell_gr (cell_alloc c1 (by omega) _) (by simp) (by omega) hg
      replace zc1 := lt_cell c1 (by simp)
      clear S
      have S := Lib.hid hs
      have zG := G.size
      clear hs hg
      clear hy
      go_wp2_with fail
      refine bodyPost_ret (v := .agg #[.int .i64 a, .int .i64 y]) (by simp (maxDischargeDepth := 8) [results, Try.results121, go_sem, c0]) rfl ?_
      exact ⟨_, _, rfl, by (repeat (first | exact S.out | with_reducible refine Src.al ?_ _ | with_reducible refine Src.dr ?_ _ | with_reducible refine Src.drw ?_ | ((with_reducible refine Src.new ?_ ?_ _ _); rotate_left; focus omega))), by (repeat (first | exact G | with_reducible refine Gr.al ?_ _ | with_reducible refine Gr.dr ?_ _ | with_reducible refine Gr.drw ?_ | ((with_reducible refine Gr.new ?_ ?_ _ _); rotate_left; focus omega)))⟩
  · go_wp2_with fail
    generalize wrap64 (a - 1) = y
    refine bodyPost_ret (v := .agg #[.int .i64 a, .int .i64 y]) (by simp (maxDischargeDepth := 8) [results, Try.results121, go_sem, c0]) rfl ?_
    exact ⟨_, _, rfl, by (repeat (first | exact S.out | with_reducible refine Src.al ?_ _ | with_reducible refine Src.dr ?_ _ | with_reducible refine Src.drw ?_ | ((with_reducible refine Src.new ?_ ?_ _ _); rotate_left; focus omega))), by (repeat (first | exact G | with_reducible refine Gr.al ?_ _ | with_reducible refine Gr.dr ?_ _ | with_reducible refine Gr.drw ?_ | ((with_reducible refine Gr.new ?_ ?_ _ _); rotate_left; focus omega)))⟩
def IvD (v : World) (e : Ending) (w' : World) : Prop := ∃ a b : Int, e = .returned (.agg #[.int .i64 a, .int .i64 b]) ∧ Below v.heap.size v w'
def IvD2 (v : World) (e : Ending) (w' : World) : Prop := ∃ a b c d : Int, e = .returned (.tuple #[.agg #[.int .i64 a, .int .i64 b], .agg #[.int .i64 c, .int .i64 d]]) ∧ Below v.heap.size v w'
set_option maxHeartbeats 4000000 in
theorem spec_DrawSquareInterval (A : Option Addr) (c : Nat) (us : List Int) (v : World) (hu : Code us) (hr : Rd v v.heap.size A (bv us)) : Calls Try.prog 74 #[.slice A us.length c] v (IvD v) := by
  have HU := Lib.hid hu
  have HR := Lib.hid hr
  clear hu hr
  go_enter Try.func74, Try.ntmps74
  go_upto_region 1 with fail
  have c0 := cell_new v #[Value.int .i64 0, .int .i64 0] 40
  have fc0 := frz_new v #[Value.int .i64 0, .int .i64 0] 40
  have zc0 := lt_cell c0 (by simp)
  have bb : Below v.heap.size v (v.alloc (.cells #[Value.int .i64 0, .int .i64 0] 40)) := by (repeat (first | with_reducible exact Below.refl _ _ | with_reducible assumption | ((with_reducible refine Bw.set ?_ ?_); rotate_left; focus omega) | ((with_reducible refine Bw.al ?_ ?_); rotate_left; focus (first | omega | (simp; done) | (simp; omega))) | with_reducible refine Below.drew ?_ | with_reducible refine Bw.dr ?_ _))
  generalize v.alloc (.cells #[Value.int .i64 0, .int .i64 0] 40) = X at *
  go_wp2_with fail
  (with_reducible refine (spec_From _ _ us _ HU.out ((HR.out.keep bb).more bb.size)).mono ?_)
  rintro e w ⟨rfl, hs, hb⟩
  replace fc0 := frz_kept hb zc0 fc0
  replace c0 := cell_kept hb zc0 c0
  have gc0 := zc0
  replace zc0 := lt_cell c0 (by simp)
  have zv := bb.size
  replace bb : Below v.heap.size v w := bb.trans (hb.mono (by omega))
  generalize X.heap.size = g at *
  clear hb
  have hgw := hs.lt
  have S := Lib.hid hs
  have G := Gr.refl w g
  have zG := G.size
  clear hs
  go_wp2_with fail
  (with_reducible refine (spec_l02Draw g _ (by (repeat (first | exact S.out | with_reducible refine Src.al ?_ _ | with_reducible refine Src.dr ?_ _ | with_reducible refine Src.drw ?_ | ((with_reducible refine Src.new ?_ ?_ _ _); rotate_left; focus omega))))).mono ?_)
  rintro e w1 ⟨a, b, rfl, hs, hg⟩
  replace G : w.grownBy w1 (some g) := Gr.tr (by (repeat (first | exact G | with_reducible refine Gr.al ?_ _ | with_reducible refine Gr.dr ?_ _ | with_reducible refine Gr.drw ?_ | ((with_reducible refine Gr.new ?_ ?_ _ _); rotate_left; focus omega)))) hg
  first | replace fc0 := frz_gr fc0 (by omega) (by omega) hg | replace fc0 := frz_gr (frz_alloc fc0 (by omega) _) (by simp; omega) (by omega) hg
  first | replace c0 := cell_gr c0 (by simp) (by omega) hg | replace c0 := cell_gr (cell_alloc c0 (by omega) _) (by simp) (by omega) hg
  replace zc0 := lt_cell c0 (by simp)
  clear S
  have S := Lib.hid hs
  have zG := G.size
  clear hs hg
  replace bb := Gr.below bb G (by omega) (by omega)
  go_wp2_with fail
  refine bodyPost_ret (v := .agg #[.int .i64 a, .int .i64 b]) (by simp (maxDischargeDepth := 8) [results, Try.results74, go_sem, c0]) rfl ?_
  exact ⟨_, _, rfl, by (repeat (first | with_reducible exact Below.refl _ _ | with_reducible assumption | ((with_reducible refine Bw.set ?_ ?_); rotate_left; focus omega) | ((with_reducible refine Bw.al ?_ ?_); rotate_left; focus (first | omega | (simp; done) | (simp; omega))) | with_reducible refine Below.drew ?_ | with_reducible refine Bw.dr ?_ _))⟩
set_option maxHeartbeats 4000000 in
theorem spec_DrawAddIntervals (A : Option Addr) (c : Nat) (us : List Int) (v : World) (hu : Code us) (hr : Rd v v.heap.size A (bv us)) : Calls Try.prog 38 #[.slice A us.length c] v (IvD2 v) := by
  have HU := Lib.hid hu
  have HR := Lib.hid hr
  clear hu hr
  go_enter Try.func38, Try.ntmps38
  go_upto_region 1 with fail
  obtain ⟨c0, fc0, c9, fc9, zz, bb⟩ := kept2 (w := v) (A := #[Value.int .i64 0, .int .i64 0]) (C := #[Value.int .i64 0, .int .i64 0]) (ta := 40) (tc := 40) (Below.refl _ _)
  generalize (v.alloc (.cells #[Value.int .i64 0, .int .i64 0] 40)).alloc (.cells #[Value.int .i64 0, .int .i64 0] 40) = X at *
  have zc0 := lt_cell c0 (by simp)
  have zc9 := lt_cell c9 (by simp)
  go_wp2_with fail
  (with_reducible refine (spec_From _ _ us _ HU.out ((HR.out.keep bb).more bb.size)).mono ?_)
  rintro e w ⟨rfl, hs, hb⟩
  replace fc0 := frz_kept hb zc0 fc0
  replace c0 := cell_kept hb zc0 c0
  have gc0 := zc0
  replace zc0 := lt_cell c0 (by simp)
  replace fc9 := frz_kept hb zc9 fc9
  replace c9 := cell_kept hb zc9 c9
  have gc9 := zc9
  replace zc9 := lt_cell c9 (by simp)
  have zv := bb.size
  replace bb : Below v.heap.size v w := bb.trans (hb.mono (by omega))
  generalize X.heap.size = g at *
  clear hb
  have hgw := hs.lt
  have S := Lib.hid hs
  have G := Gr.refl w g
  have zG := G.size
  clear hs
  go_wp2_with fail
  (with_reducible refine (spec_l02Draw g _ (by (repeat (first | exact S.out | with_reducible refine Src.al ?_ _ | with_reducible refine Src.dr ?_ _ | with_reducible refine Src.drw ?_ | ((with_reducible refine Src.new ?_ ?_ _ _); rotate_left; focus omega))))).mono ?_)
  rintro e w1 ⟨a, b, rfl, hs, hg⟩
  replace G : w.grownBy w1 (some g) := Gr.tr (by (repeat (first | exact G | with_reducible refine Gr.al ?_ _ | with_reducible refine Gr.dr ?_ _ | with_reducible refine Gr.drw ?_ | ((with_reducible refine Gr.new ?_ ?_ _ _); rotate_left; focus omega)))) hg
  first | replace fc0 := frz_gr fc0 (by omega) (by omega) hg | replace fc0 := frz_gr (frz_alloc fc0 (by omega) _) (by simp; omega) (by omega) hg
  first | replace c0 := cell_gr c0 (by simp) (by omega) hg | replace c0 := cell_gr (cell_alloc c0 (by omega) _) (by simp) (by omega) hg
  replace zc0 := lt_cell c0 (by simp)
  first | replace fc9 := frz_gr fc9 (by omega) (by omega) hg | replace fc9 := frz_gr (frz_alloc fc9 (by omega) _) (by simp; omega) (by omega) hg
  first | replace c9 := cell_gr c9 (by simp) (by omega) hg | replace c9 := cell_gr (cell_alloc c9 (by omega) _) (by simp) (by omega) hg
  replace zc9 := lt_cell c9 (by simp)
  clear S
  have S := Lib.hid hs
  have zG := G.size
  clear hs hg
  go_upto_region 3 with fail
  first | have lc1 : w.heap.size < w1.heap.size := by omega | have lc1 : w.heap.size ≤ w1.heap.size := by omega
  replace fc0 := frz_alloc fc0 (by omega) (.cells #[Value.int .i64 a, Value.int .i64 b] 40)
  replace c0 := cell_alloc c0 (by omega) (.cells #[Value.int .i64 a, Value.int .i64 b] 40)
  replace zc0 := lt_cell c0 (by simp)
  replace fc9 := frz_alloc fc9 (by omega) (.cells #[Value.int .i64 a, Value.int .i64 b] 40)
  replace c9 := cell_alloc c9 (by omega) (.cells #[Value.int .i64 a, Value.int .i64 b] 40)
  replace zc9 := lt_cell c9 (by simp)
  have c1 := cell_new w1 #[Value.int .i64 a, Value.int .i64 b] 40
  have fc1 := frz_new w1 #[Value.int .i64 a, Value.int .i64 b] 40
  replace G : w.grownBy (w1.alloc (.cells #[Value.int .i64 a, Value.int .i64 b] 40)) (some g) := Gr.al G _
  replace S := Lib.hid (S.out.al (.cells #[Value.int .i64 a, Value.int .i64 b] 40))
  have zc1 := lt_cell c1 (by simp)
  generalize w1.alloc (.cells #[Value.int .i64 a, Value.int .i64 b] 40) = w2 at *
  generalize w1.heap.size = b1 at *
  try have nc1 : ¬ b1 = w.heap.size := by omega
  try have mc1 : ¬ w.heap.size = b1 := by omega
  clear lc1
  go_region_with ((go_at_call 121; refine (spec_l02Draw g _ (by (repeat (first | exact S.out | with_reducible refine Src.al ?_ _ | with_reducible refine Src.dr ?_ _ | with_reducible refine Src.drw ?_ | ((with_reducible refine Src.new ?_ ?_ _ _); rotate_left; focus omega))))).mono ?_; rintro e w3 ⟨x, y, rfl, hs, hg⟩; (try replace hg := Gr.un hg); replace G : w.grownBy w3 (some g) := Gr.tr (by (repeat (first | exact G | with_reducible refine Gr.al ?_ _ | with_reducible refine Gr.dr ?_ _ | with_reducible refine Gr.drw ?_ | ((with_reducible refine Gr.new ?_ ?_ _ _); rotate_left; focus omega)))) hg; (first | replace fc0 := frz_gr fc0 (by omega) (by omega) hg | replace fc0 := frz_gr (frz_alloc fc0 (by omega) _) (by simp; omega) (by omega) hg); (first | replace c0 := cell_gr c0 (by simp) (by omega) hg | replace c0 := cell_gr (cell_alloc c0 (by omega) _) (by simp) (by omega) hg); replace zc0 := lt_cell c0 (by simp); (first | replace fc9 := frz_gr fc9 (by omega) (by omega) hg | replace fc9 := frz_gr (frz_alloc fc9 (by omega) _) (by simp; omega) (by omega) hg); (first | replace c9 := cell_gr c9 (by simp) (by omega) hg | replace c9 := cell_gr (cell_alloc c9 (by omega) _) (by simp) (by omega) hg); replace zc9 := lt_cell c9 (by simp); (first | replace fc1 := frz_gr fc1 (by omega) (by omega) hg | replace fc1 := frz_gr (frz_alloc fc1 (by omega) _) (by simp; omega) (by omega) hg); (first | replace c1 := cell_gr c1 (by simp) (by omega) hg | replace c1 := cell_gr (cell_alloc c1 (by omega) _) (by simp) (by omega) hg); replace zc1 := lt_cell c1 (by simp); replace S := Lib.hid hs; clear hs hg; have bw : Below v.heap.size v w3 := Gr.below bb G (by omega) (by omega)))
  all_goals
    go_wp2_with fail
    refine bodyPost_ret (v := .tuple #[.agg #[.int .i64 a, .int .i64 b], .agg #[.int .i64 x, .int .i64 y]]) (by simp (maxDischargeDepth := 8) [results, Try.results38, go_sem, c0, c9]) rfl ?_
    exact ⟨_, _, _, _, rfl, by (repeat (first | with_reducible exact Below.refl _ _ | with_reducible assumption | ((with_reducible refine Bw.set ?_ ?_); rotate_left; focus omega) | ((with_reducible refine Bw.al ?_ ?_); rotate_left; focus (first | omega | (simp; done) | (simp; omega))) | with_reducible refine Below.drew ?_ | with_reducible refine Bw.dr ?_ _))⟩

end Go.Proofs.Ytpejbmfapdocaaa
