/- Arguments of the intervals' texts' law drawn. Conditions: those that each theorem names. -/
import Derived.Test.YtpejbmfapdocaaaDrI
import Derived.Test.YtpejbmfapdocaaaDrT
import Derived.Test.YtpejbmfapdocaaaDrL
import Derived.Test.YtpejbmfapdocaaaIvZ
namespace Go.Proofs.Ytpejbmfapdocaaa
open Go.RowKit

def IvG (g : Nat) (w : World) (e : Ending) (w' : World) : Prop := ∃ a b : Int, isIv a b = true ∧ e = .returned (.agg #[.int .i64 a, .int .i64 b]) ∧ Src w' g ∧ w.grownBy w' (some g)
theorem next_le {n m x : Int} (h : NextR n x) (hn : 1 ≤ n) (hm : n = m + 1) : 0 ≤ x ∧ x ≤ m := by
  obtain ⟨h1, h2⟩ := h
  omega
set_option maxRecDepth 100000 in
set_option maxHeartbeats 4000000 in
theorem spec_l02GoodB (g : Nat) (w : World) (hs : Src w g) : Calls Try.prog 150 #[.pointer (some ⟨g, 0, none⟩)] w (IvG g w) := by
  have hgw := hs.lt
  have S := Lib.hid hs
  have G := Gr.refl w g
  have zG := G.size
  clear hs
  go_enter Try.func150, Try.ntmps150
  go_upto_region 1 with fail
  have c0 := cell_new w #[Value.int .i64 0, Value.int .i64 0] 40
  have fc0 := frz_new w #[Value.int .i64 0, Value.int .i64 0] 40
  have zc0 := lt_cell c0 (by simp)
  go_wp2_with fail
  (with_reducible refine (spec_Next g 2001 _ (by (repeat (first | exact S.out | with_reducible refine Src.al ?_ _ | with_reducible refine Src.dr ?_ _ | with_reducible refine Src.drw ?_ | ((with_reducible refine Src.new ?_ ?_ _ _); rotate_left; focus omega)))) (by omega)).mono ?_)
  rintro e w1 ⟨x1, hx1, rfl, hs, hg⟩
  replace G : w.grownBy w1 (some g) := Gr.tr (by (repeat (first | exact G | with_reducible refine Gr.al ?_ _ | with_reducible refine Gr.dr ?_ _ | with_reducible refine Gr.drw ?_ | ((with_reducible refine Gr.new ?_ ?_ _ _); rotate_left; focus omega)))) hg
  first | replace fc0 := frz_gr fc0 (by omega) (by omega) hg | replace fc0 := frz_gr (frz_alloc fc0 (by omega) _) (by simp; omega) (by omega) hg
  first | replace c0 := cell_gr c0 (by simp) (by omega) hg | replace c0 := cell_gr (cell_alloc c0 (by omega) _) (by simp) (by omega) hg
  replace zc0 := lt_cell c0 (by simp)
  clear S
  have S := Lib.hid hs
  have zG := G.size
  clear hs hg
  obtain ⟨u1, v1⟩ := next_le (m := 2000) hx1 (by omega) (by omega)
  clear hx1
  go_wp2_with fail
  (with_reducible refine (spec_Next g 60001 _ (by (repeat (first | exact S.out | with_reducible refine Src.al ?_ _ | with_reducible refine Src.dr ?_ _ | with_reducible refine Src.drw ?_ | ((with_reducible refine Src.new ?_ ?_ _ _); rotate_left; focus omega)))) (by omega)).mono ?_)
  rintro e w2 ⟨x2, hx2, rfl, hs, hg⟩
  replace G : w.grownBy w2 (some g) := Gr.tr (by (repeat (first | exact G | with_reducible refine Gr.al ?_ _ | with_reducible refine Gr.dr ?_ _ | with_reducible refine Gr.drw ?_ | ((with_reducible refine Gr.new ?_ ?_ _ _); rotate_left; focus omega)))) hg
  first | replace fc0 := frz_gr fc0 (by omega) (by omega) hg | replace fc0 := frz_gr (frz_alloc fc0 (by omega) _) (by simp; omega) (by omega) hg
  first | replace c0 := cell_gr c0 (by simp) (by omega) hg | replace c0 := cell_gr (cell_alloc c0 (by omega) _) (by simp) (by omega) hg
  replace zc0 := lt_cell c0 (by simp)
  clear S
  have S := Lib.hid hs
  have zG := G.size
  clear hs hg
  obtain ⟨u2, v2⟩ := next_le (m := 60000) hx2 (by omega) (by omega)
  clear hx2
  go_wp2_with fail
  (with_reducible refine (spec_Next g 41 _ (by (repeat (first | exact S.out | with_reducible refine Src.al ?_ _ | with_reducible refine Src.dr ?_ _ | with_reducible refine Src.drw ?_ | ((with_reducible refine Src.new ?_ ?_ _ _); rotate_left; focus omega)))) (by omega)).mono ?_)
  rintro e w3 ⟨x3, hx3, rfl, hs, hg⟩
  replace G : w.grownBy w3 (some g) := Gr.tr (by (repeat (first | exact G | with_reducible refine Gr.al ?_ _ | with_reducible refine Gr.dr ?_ _ | with_reducible refine Gr.drw ?_ | ((with_reducible refine Gr.new ?_ ?_ _ _); rotate_left; focus omega)))) hg
  first | replace fc0 := frz_gr fc0 (by omega) (by omega) hg | replace fc0 := frz_gr (frz_alloc fc0 (by omega) _) (by simp; omega) (by omega) hg
  first | replace c0 := cell_gr c0 (by simp) (by omega) hg | replace c0 := cell_gr (cell_alloc c0 (by omega) _) (by simp) (by omega) hg
  replace zc0 := lt_cell c0 (by simp)
  clear S
  have S := Lib.hid hs
  have zG := G.size
  clear hs hg
  obtain ⟨u3, v3⟩ := next_le (m := 40) hx3 (by omega) (by omega)
  clear hx3
  go_wp2_with fail
  (refine (spec_PickN g _ 3 _ [_, _, _] _ (by (repeat (first | exact S.out | with_reducible refine Src.al ?_ _ | with_reducible refine Src.dr ?_ _ | with_reducible refine Src.drw ?_ | ((with_reducible refine Src.new ?_ ?_ _ _); rotate_left; focus omega)))) rfl (by decide) (cell_new _ _ _) (by first | omega | (simp; omega))).mono ?_)
  rintro e w4 ⟨x4, hx4, rfl, hs, hg⟩
  replace G : w.grownBy w4 (some g) := Gr.tr (by (repeat (first | exact G | with_reducible refine Gr.al ?_ _ | with_reducible refine Gr.dr ?_ _ | with_reducible refine Gr.drw ?_ | ((with_reducible refine Gr.new ?_ ?_ _ _); rotate_left; focus omega)))) hg
  first | replace fc0 := frz_gr fc0 (by omega) (by omega) hg | replace fc0 := frz_gr (frz_alloc fc0 (by omega) _) (by simp; omega) (by omega) hg
  first | replace c0 := cell_gr c0 (by simp) (by omega) hg | replace c0 := cell_gr (cell_alloc c0 (by omega) _) (by simp) (by omega) hg
  replace zc0 := lt_cell c0 (by simp)
  clear S
  have S := Lib.hid hs
  have zG := G.size
  clear hs hg
  have h4 : -30000 ≤ x4 ∧ x4 ≤ 30000 := by
    simp only [List.mem_cons, List.mem_nil_iff, or_false] at hx4
    omega
  obtain ⟨u4, v4⟩ := h4
  clear hx4 u1 v1 u2 v2 u3 v3
  go_wp2_with fail
  (with_reducible refine (spec_Next g 200 _ (by (repeat (first | exact S.out | with_reducible refine Src.al ?_ _ | with_reducible refine Src.dr ?_ _ | with_reducible refine Src.drw ?_ | ((with_reducible refine Src.new ?_ ?_ _ _); rotate_left; focus omega)))) (by omega)).mono ?_)
  rintro e w5 ⟨x5, hx5, rfl, hs, hg⟩
  replace G : w.grownBy w5 (some g) := Gr.tr (by (repeat (first | exact G | with_reducible refine Gr.al ?_ _ | with_reducible refine Gr.dr ?_ _ | with_reducible refine Gr.drw ?_ | ((with_reducible refine Gr.new ?_ ?_ _ _); rotate_left; focus omega)))) hg
  first | replace fc0 := frz_gr fc0 (by omega) (by omega) hg | replace fc0 := frz_gr (frz_alloc fc0 (by omega) _) (by simp; omega) (by omega) hg
  first | replace c0 := cell_gr c0 (by simp) (by omega) hg | replace c0 := cell_gr (cell_alloc c0 (by omega) _) (by simp) (by omega) hg
  replace zc0 := lt_cell c0 (by simp)
  clear S
  have S := Lib.hid hs
  have zG := G.size
  clear hs hg
  obtain ⟨u5, v5⟩ := next_le (m := 199) hx5 (by omega) (by omega)
  clear hx5
  go_wp2_with fail
  (with_reducible refine (spec_Next g 5000 _ (by (repeat (first | exact S.out | with_reducible refine Src.al ?_ _ | with_reducible refine Src.dr ?_ _ | with_reducible refine Src.drw ?_ | ((with_reducible refine Src.new ?_ ?_ _ _); rotate_left; focus omega)))) (by omega)).mono ?_)
  rintro e w6 ⟨x6, hx6, rfl, hs, hg⟩
  replace G : w.grownBy w6 (some g) := Gr.tr (by (repeat (first | exact G | with_reducible refine Gr.al ?_ _ | with_reducible refine Gr.dr ?_ _ | with_reducible refine Gr.drw ?_ | ((with_reducible refine Gr.new ?_ ?_ _ _); rotate_left; focus omega)))) hg
  first | replace fc0 := frz_gr fc0 (by omega) (by omega) hg | replace fc0 := frz_gr (frz_alloc fc0 (by omega) _) (by simp; omega) (by omega) hg
  first | replace c0 := cell_gr c0 (by simp) (by omega) hg | replace c0 := cell_gr (cell_alloc c0 (by omega) _) (by simp) (by omega) hg
  replace zc0 := lt_cell c0 (by simp)
  clear S
  have S := Lib.hid hs
  have zG := G.size
  clear hs hg
  obtain ⟨u6, v6⟩ := next_le (m := 4999) hx6 (by omega) (by omega)
  clear hx6
  go_wp2_with fail
  (refine (spec_PickN g _ 3 _ [_, _, _] _ (by (repeat (first | exact S.out | with_reducible refine Src.al ?_ _ | with_reducible refine Src.dr ?_ _ | with_reducible refine Src.drw ?_ | ((with_reducible refine Src.new ?_ ?_ _ _); rotate_left; focus omega)))) rfl (by decide) (cell_new _ _ _) (by first | omega | (simp; omega))).mono ?_)
  rintro e w7 ⟨x7, hx7, rfl, hs, hg⟩
  replace G : w.grownBy w7 (some g) := Gr.tr (by (repeat (first | exact G | with_reducible refine Gr.al ?_ _ | with_reducible refine Gr.dr ?_ _ | with_reducible refine Gr.drw ?_ | ((with_reducible refine Gr.new ?_ ?_ _ _); rotate_left; focus omega)))) hg
  first | replace fc0 := frz_gr fc0 (by omega) (by omega) hg | replace fc0 := frz_gr (frz_alloc fc0 (by omega) _) (by simp; omega) (by omega) hg
  first | replace c0 := cell_gr c0 (by simp) (by omega) hg | replace c0 := cell_gr (cell_alloc c0 (by omega) _) (by simp) (by omega) hg
  replace zc0 := lt_cell c0 (by simp)
  clear S
  have S := Lib.hid hs
  have zG := G.size
  clear hs hg
  have h7 : 0 ≤ x7 ∧ x7 ≤ 4999 := by
    simp only [List.mem_cons, List.mem_nil_iff, or_false] at hx7
    omega
  obtain ⟨u7, v7⟩ := h7
  clear hx7 u5 v5 u6 v6
  go_upto_region 3 with fail
  have hok : isIv x4 (x4 + x7) = true := isIv_mk ⟨by omega, by omega, by omega⟩
  generalize x4 + x7 = y4 at *
  replace hok := Lib.hid hok
  clear u4 v4 u7 v7
  first | have lc1 : w.heap.size < w7.heap.size := by omega | have lc1 : w.heap.size ≤ w7.heap.size := by omega
  replace fc0 := frz_alloc fc0 (by omega) (.cells #[Value.int .i64 x4, Value.int .i64 y4] 40)
  replace c0 := cell_alloc c0 (by omega) (.cells #[Value.int .i64 x4, Value.int .i64 y4] 40)
  replace zc0 := lt_cell c0 (by simp)
  have c1 := cell_new w7 #[Value.int .i64 x4, Value.int .i64 y4] 40
  have fc1 := frz_new w7 #[Value.int .i64 x4, Value.int .i64 y4] 40
  replace G : w.grownBy (w7.alloc (.cells #[Value.int .i64 x4, Value.int .i64 y4] 40)) (some g) := Gr.al G _
  replace S := Lib.hid (S.out.al (.cells #[Value.int .i64 x4, Value.int .i64 y4] 40))
  have zc1 := lt_cell c1 (by simp)
  generalize w7.alloc (.cells #[Value.int .i64 x4, Value.int .i64 y4] 40) = w8 at *
  generalize w7.heap.size = b1 at *
  try have nc1 : ¬ b1 = w.heap.size := by omega
  try have mc1 : ¬ w.heap.size = b1 := by omega
  go_wp2_with fail
  (with_reducible refine (spec_Next g 20 _ (by (repeat (first | exact S.out | with_reducible refine Src.al ?_ _ | with_reducible refine Src.dr ?_ _ | with_reducible refine Src.drw ?_ | ((with_reducible refine Src.new ?_ ?_ _ _); rotate_left; focus omega)))) (by omega)).mono ?_)
  rintro e w9 ⟨x9, hx9, rfl, hs, hg⟩
  replace G : w.grownBy w9 (some g) := Gr.tr (by (repeat (first | exact G | with_reducible refine Gr.al ?_ _ | with_reducible refine Gr.dr ?_ _ | with_reducible refine Gr.drw ?_ | ((with_reducible refine Gr.new ?_ ?_ _ _); rotate_left; focus omega)))) hg
  first | replace fc0 := frz_gr fc0 (by omega) (by omega) hg | replace fc0 := frz_gr (frz_alloc fc0 (by omega) _) (by simp; omega) (by omega) hg
  first | replace c0 := cell_gr c0 (by simp) (by omega) hg | replace c0 := cell_gr (cell_alloc c0 (by omega) _) (by simp) (by omega) hg
  replace zc0 := lt_cell c0 (by simp)
  first | replace fc1 := frz_gr fc1 (by omega) (by omega) hg | replace fc1 := frz_gr (frz_alloc fc1 (by omega) _) (by simp; omega) (by omega) hg
  first | replace c1 := cell_gr c1 (by simp) (by omega) hg | replace c1 := cell_gr (cell_alloc c1 (by omega) _) (by simp) (by omega) hg
  replace zc1 := lt_cell c1 (by simp)
  clear S
  have S := Lib.hid hs
  have zG := G.size
  clear hs hg
  clear hx9
  rcases e9 : (x9 == 0) with _ | _
  · go_wp2_with fail
    refine bodyPost_ret (v := .agg #[.int .i64 x4, .int .i64 y4]) (by simp (maxDischargeDepth := 8) [results, Try.results150, go_sem, c0]) rfl ?_
    exact ⟨_, _, hok.out, rfl, by (repeat (first | exact S.out | with_reducible refine Src.al ?_ _ | with_reducible refine Src.dr ?_ _ | with_reducible refine Src.drw ?_ | ((with_reducible refine Src.new ?_ ?_ _ _); rotate_left; focus omega))), by (repeat (first | exact G | with_reducible refine Gr.al ?_ _ | with_reducible refine Gr.dr ?_ _ | with_reducible refine Gr.drw ?_ | ((with_reducible refine Gr.new ?_ ?_ _ _); rotate_left; focus omega)))⟩
  · go_wp2_with fail
    (with_reducible refine (spec_Next g 1000000001 _ (by (repeat (first | exact S.out | with_reducible refine Src.al ?_ _ | with_reducible refine Src.dr ?_ _ | with_reducible refine Src.drw ?_ | ((with_reducible refine Src.new ?_ ?_ _ _); rotate_left; focus omega)))) (by omega)).mono ?_)
    rintro e w10 ⟨x10, hx10, rfl, hs, hg⟩
    replace G : w.grownBy w10 (some g) := Gr.tr (by (repeat (first | exact G | with_reducible refine Gr.al ?_ _ | with_reducible refine Gr.dr ?_ _ | with_reducible refine Gr.drw ?_ | ((with_reducible refine Gr.new ?_ ?_ _ _); rotate_left; focus omega)))) hg
    first | replace fc0 := frz_gr fc0 (by omega) (by omega) hg | replace fc0 := frz_gr (frz_alloc fc0 (by omega) _) (by simp; omega) (by omega) hg
    first | replace c0 := cell_gr c0 (by simp) (by omega) hg | replace c0 := cell_gr (cell_alloc c0 (by omega) _) (by simp) (by omega) hg
    replace zc0 := lt_cell c0 (by simp)
    clear S
    have S := Lib.hid hs
    have zG := G.size
    clear hs hg
    obtain ⟨u1, v1⟩ := next_le (m := 1000000000) hx10 (by omega) (by omega)
    clear hx10
    go_wp2_with fail
    (with_reducible refine (spec_Next g 1000000001 _ (by (repeat (first | exact S.out | with_reducible refine Src.al ?_ _ | with_reducible refine Src.dr ?_ _ | with_reducible refine Src.drw ?_ | ((with_reducible refine Src.new ?_ ?_ _ _); rotate_left; focus omega)))) (by omega)).mono ?_)
    rintro e w11 ⟨x11, hx11, rfl, hs, hg⟩
    replace G : w.grownBy w11 (some g) := Gr.tr (by (repeat (first | exact G | with_reducible refine Gr.al ?_ _ | with_reducible refine Gr.dr ?_ _ | with_reducible refine Gr.drw ?_ | ((with_reducible refine Gr.new ?_ ?_ _ _); rotate_left; focus omega)))) hg
    first | replace fc0 := frz_gr fc0 (by omega) (by omega) hg | replace fc0 := frz_gr (frz_alloc fc0 (by omega) _) (by simp; omega) (by omega) hg
    first | replace c0 := cell_gr c0 (by simp) (by omega) hg | replace c0 := cell_gr (cell_alloc c0 (by omega) _) (by simp) (by omega) hg
    replace zc0 := lt_cell c0 (by simp)
    clear S
    have S := Lib.hid hs
    have zG := G.size
    clear hs hg
    obtain ⟨u2, v2⟩ := next_le (m := 1000000000) hx11 (by omega) (by omega)
    clear hx11
    have hok2 := Lib.hid (show isIv (-x10) x11 = true from isIv_mk ⟨by omega, by omega, by omega⟩)
    go_wp2_with fail
    refine bodyPost_ret (v := .agg #[.int .i64 (-x10), .int .i64 x11]) (by simp (maxDischargeDepth := 8) [results, Try.results150, go_sem, c0]) rfl ?_
    exact ⟨_, _, hok2.out, rfl, by (repeat (first | exact S.out | with_reducible refine Src.al ?_ _ | with_reducible refine Src.dr ?_ _ | with_reducible refine Src.drw ?_ | ((with_reducible refine Src.new ?_ ?_ _ _); rotate_left; focus omega))), by (repeat (first | exact G | with_reducible refine Gr.al ?_ _ | with_reducible refine Gr.dr ?_ _ | with_reducible refine Gr.drw ?_ | ((with_reducible refine Gr.new ?_ ?_ _ _); rotate_left; focus omega)))⟩
set_option maxHeartbeats 4000000 in
theorem spec_DrawIntervalText (A : Option Addr) (c : Nat) (us : List Int) (v : World) (hu : Code us) (hr : Rd v v.heap.size A (bv us)) : Calls Try.prog 94 #[.slice A us.length c] v (IvD v) := by
  have HU := Lib.hid hu
  have HR := Lib.hid hr
  clear hu hr
  go_enter Try.func94, Try.ntmps94
  go_upto_region 1 with fail
  have c0 := cell_new v #[Value.int .i64 0, .int .i64 0] 40
  have fc0 := frz_new v #[Value.int .i64 0, .int .i64 0] 40
  have zc0 := lt_cell c0 (by simp)
  have bb : Below v.heap.size v (v.alloc (.cells #[Value.int .i64 0, .int .i64 0] 40)) := by (repeat (first | with_reducible exact Below.refl _ _ | with_reducible assumption | ((with_reducible refine Bw.set ?_ ?_); rotate_left; focus omega) | ((with_reducible refine Bw.al ?_ ?_); rotate_left; focus (first | omega | (simp; done) | (simp; omega))) | with_reducible refine Below.drew ?_ | with_reducible refine Bw.dr ?_ _))
  generalize v.alloc (.cells #[Value.int .i64 0, .int .i64 0] 40) = X at *
  go_wp2_with fail
  (with_reducible refine (spec_From _ _ us _ HU.out ((HR.out.keep bb).more bb.size)).mono ?_)
  rintro e w ⟨rfl, hs, hb⟩
  replace fc0 := frz_kept hb zc0 fc0
  replace c0 := cell_kept hb zc0 c0
  have gc0 := zc0
  replace zc0 := lt_cell c0 (by simp)
  have zv := bb.size
  replace bb : Below v.heap.size v w := bb.trans (hb.mono (by omega))
  generalize X.heap.size = g at *
  clear hb
  have hgw := hs.lt
  have S := Lib.hid hs
  have G := Gr.refl w g
  have zG := G.size
  clear hs
  go_wp2_with fail
  (with_reducible refine (spec_l02Draw g _ (by (repeat (first | exact S.out | with_reducible refine Src.al ?_ _ | with_reducible refine Src.dr ?_ _ | with_reducible refine Src.drw ?_ | ((with_reducible refine Src.new ?_ ?_ _ _); rotate_left; focus omega))))).mono ?_)
  rintro e w1 ⟨a, b, rfl, hs, hg⟩
  replace G : w.grownBy w1 (some g) := Gr.tr (by (repeat (first | exact G | with_reducible refine Gr.al ?_ _ | with_reducible refine Gr.dr ?_ _ | with_reducible refine Gr.drw ?_ | ((with_reducible refine Gr.new ?_ ?_ _ _); rotate_left; focus omega)))) hg
  first | replace fc0 := frz_gr fc0 (by omega) (by omega) hg | replace fc0 := frz_gr (frz_alloc fc0 (by omega) _) (by simp; omega) (by omega) hg
  first | replace c0 := cell_gr c0 (by simp) (by omega) hg | replace c0 := cell_gr (cell_alloc c0 (by omega) _) (by simp) (by omega) hg
  replace zc0 := lt_cell c0 (by simp)
  clear S
  have S := Lib.hid hs
  have zG := G.size
  clear hs hg
  replace bb := Gr.below bb G (by omega) (by omega)
  go_wp2_with fail
  refine bodyPost_ret (v := .agg #[.int .i64 a, .int .i64 b]) (by simp (maxDischargeDepth := 8) [results, Try.results94, go_sem, c0]) rfl ?_
  exact ⟨_, _, rfl, by (repeat (first | with_reducible exact Below.refl _ _ | with_reducible assumption | ((with_reducible refine Bw.set ?_ ?_); rotate_left; focus omega) | ((with_reducible refine Bw.al ?_ ?_); rotate_left; focus (first | omega | (simp; done) | (simp; omega))) | with_reducible refine Below.drew ?_ | with_reducible refine Bw.dr ?_ _))⟩
set_option maxRecDepth 100000 in
set_option maxHeartbeats 1000000 in
theorem spec_DrawReadInterval (A : Option Addr) (cap : Nat) (us : List Int) (v : World) (hu : Code us) (hr : Rd v v.heap.size A (bv us)) : Calls Try.prog 97 #[.slice A us.length cap] v (StrD 100 v) := by
  have HU := Lib.hid hu
  have HR := Lib.hid hr
  clear hu hr
  have bb := Below.refl v.heap.size v
  have zb := bb.size
  go_enter Try.func97, Try.ntmps97
  go_wp2_with fail
  (with_reducible refine (spec_From _ _ us _ HU.out (HR.out)).mono ?_)
  rintro e w ⟨rfl, hs, hb⟩
  have bb : Below v.heap.size v w := hb
  have zv : v.heap.size ≤ v.heap.size := Nat.le_refl _
  obtain ⟨g, hgg⟩ : ∃ g, v.heap.size = g := ⟨_, rfl⟩
  rw [hgg] at hs
  have hgw := hs.lt
  have S := Lib.hid hs
  have G := Gr.refl w g
  have zG := G.size
  have hgv : v.heap.size ≤ g := Nat.le_of_eq hgg
  rw [hgg]
  clear hb hs hgg
  go_wp2_with fail
  (with_reducible refine (spec_l02GoodB g _ (by (repeat (first | exact S.out | with_reducible refine Src.al ?_ _ | with_reducible refine Src.dr ?_ _ | with_reducible refine Src.drw ?_ | ((with_reducible refine Src.new ?_ ?_ _ _); rotate_left; focus omega))))).mono ?_)
  rintro e w1 ⟨a, b, hok, rfl, hs, hg⟩
  replace G : w.grownBy w1 (some g) := Gr.tr (by (repeat (first | exact G | with_reducible refine Gr.al ?_ _ | with_reducible refine Gr.dr ?_ _ | with_reducible refine Gr.drw ?_ | ((with_reducible refine Gr.new ?_ ?_ _ _); rotate_left; focus omega)))) hg
  clear S
  have S := Lib.hid hs
  clear hs hg
  replace zG := G.size
  replace hok := Lib.hid hok
  go_wp2_with fail
  (with_reducible refine (spec_ivText a b _ hok.out).mono ?_)
  rintro e w4 ⟨rfl, hb1⟩
  have ht := ivB_size hok.out
  generalize ivB a b = t at *
  replace S := Lib.hid (S.out.bw hb1)
  replace G : w.grownBy w4 (some g) := Gr.bw G hb1
  replace zG := G.size
  clear hb1
  go_wp2_with fail
  (with_reducible refine (spec_Next g 4 _ (by (repeat (first | exact S.out | with_reducible refine Src.al ?_ _ | with_reducible refine Src.dr ?_ _ | with_reducible refine Src.drw ?_ | ((with_reducible refine Src.new ?_ ?_ _ _); rotate_left; focus omega)))) (by omega)).mono ?_)
  rintro e w5 ⟨x5, hx5, rfl, hs, hg⟩
  replace G : w.grownBy w5 (some g) := Gr.tr (by (repeat (first | exact G | with_reducible refine Gr.al ?_ _ | with_reducible refine Gr.dr ?_ _ | with_reducible refine Gr.drw ?_ | ((with_reducible refine Gr.new ?_ ?_ _ _); rotate_left; focus omega)))) hg
  clear S
  have S := Lib.hid hs
  have zG := G.size
  clear hs hg
  clear hx5
  rcases e0 : (x5 == 0) with _ | _
  · rcases e1 : (x5 == 1) with _ | _
    · replace bb := Gr.below bb G (by omega) (by omega)
      go_wp2_with fail
      go_ret
      exact ⟨_, by omega, rfl, bb⟩
    · go_wp2_with fail
      (with_reducible refine (spec_Next g 6 _ (by (repeat (first | exact S.out | with_reducible refine Src.al ?_ _ | with_reducible refine Src.dr ?_ _ | with_reducible refine Src.drw ?_ | ((with_reducible refine Src.new ?_ ?_ _ _); rotate_left; focus omega)))) (by omega)).mono ?_)
      rintro e w6 ⟨k, hk, rfl, hs, hg⟩
      obtain ⟨k, rfl⟩ : ∃ j : Nat, k = (j : Int) := ⟨Int.toNat k, by have := hk.1; omega⟩
      have hx2 : k < 6 := by have := hk.2; omega
      have hk := cell_gr (cell_new _ _ _) (by simp) (by first | omega | (simp; done) | (simp; omega)) hg k
      obtain ⟨t2, ht2, hsz⟩ := strs_at (n := 6) (m := 20) hk (by intro k hk; rcases k with _ | _ | _ | _ | _ | _ | _ | _ | _ | _ | _ | _ | k <;> first | exact ⟨_, rfl, by decide⟩ | omega) hx2
      clear hk
      replace G : w.grownBy w6 (some g) := Gr.tr (by (repeat (first | exact G | with_reducible refine Gr.al ?_ _ | with_reducible refine Gr.dr ?_ _ | with_reducible refine Gr.drw ?_ | ((with_reducible refine Gr.new ?_ ?_ _ _); rotate_left; focus omega)))) hg
      clear S hk
      have S := Lib.hid hs
      have zG := G.size
      clear hs hg
      replace bb := Gr.below bb G (by omega) (by omega)
      go_wp2_with fail
      go_ret
      exact ⟨_, by omega, rfl, bb⟩
  · go_wp2_with fail
    (with_reducible refine (spec_Damage g t _ (by (repeat (first | exact S.out | with_reducible refine Src.al ?_ _ | with_reducible refine Src.dr ?_ _ | with_reducible refine Src.drw ?_ | ((with_reducible refine Src.new ?_ ?_ _ _); rotate_left; focus omega)))) (by omega)).mono ?_)
    rintro e w6 ⟨t2, ht2, rfl, hs, hg⟩
    replace G : w.grownBy w6 (some g) := Gr.tr (by (repeat (first | exact G | with_reducible refine Gr.al ?_ _ | with_reducible refine Gr.dr ?_ _ | with_reducible refine Gr.drw ?_ | ((with_reducible refine Gr.new ?_ ?_ _ _); rotate_left; focus omega)))) hg
    replace bb := Gr.below bb G (by omega) (by omega)
    go_wp2_with fail
    go_ret
    exact ⟨_, by omega, rfl, bb⟩

end Go.Proofs.Ytpejbmfapdocaaa
