/- An interval and a number drawn. Conditions: those that the theorem names. -/
import Derived.Test.YtpejbmfapdocaaaDrI
namespace Go.Proofs.Ytpejbmfapdocaaa
open Go.RowKit

def IvND (v : World) (e : Ending) (w' : World) : Prop := ∃ a b n : Int, e = .returned (.tuple #[.agg #[.int .i64 a, .int .i64 b], .int .i64 n]) ∧ Below v.heap.size v w'
set_option maxRecDepth 100000 in
set_option maxHeartbeats 4000000 in
theorem spec_DrawTimesInterval (A : Option Addr) (c : Nat) (us : List Int) (v : World) (hu : Code us) (hr : Rd v v.heap.size A (bv us)) : Calls Try.prog 41 #[.slice A us.length c] v (IvND v) := by
  have HU := Lib.hid hu
  have HR := Lib.hid hr
  clear hu hr
  go_enter Try.func41, Try.ntmps41
  go_upto_region 1 with fail
  have c0 := cell_new v #[Value.int .i64 0, .int .i64 0] 40
  have fc0 := frz_new v #[Value.int .i64 0, .int .i64 0] 40
  have zc0 := lt_cell c0 (by simp)
  have bb : Below v.heap.size v (v.alloc (.cells #[Value.int .i64 0, .int .i64 0] 40)) := by (repeat (first | with_reducible exact Below.refl _ _ | with_reducible assumption | ((with_reducible refine Bw.set ?_ ?_); rotate_left; focus omega) | ((with_reducible refine Bw.al ?_ ?_); rotate_left; focus (first | omega | (simp; done) | (simp; omega))) | with_reducible refine Below.drew ?_ | with_reducible refine Bw.dr ?_ _))
  generalize v.alloc (.cells #[Value.int .i64 0, .int .i64 0] 40) = X at *
  go_wp2_with fail
  (with_reducible refine (spec_From _ _ us _ HU.out ((HR.out.keep bb).more bb.size)).mono ?_)
  rintro e w ⟨rfl, hs, hb⟩
  replace fc0 := frz_kept hb zc0 fc0
  replace c0 := cell_kept hb zc0 c0
  have gc0 := zc0
  replace zc0 := lt_cell c0 (by simp)
  have zv := bb.size
  replace bb : Below v.heap.size v w := bb.trans (hb.mono (by omega))
  generalize X.heap.size = g at *
  clear hb
  have hgw := hs.lt
  have S := Lib.hid hs
  have G := Gr.refl w g
  have zG := G.size
  clear hs
  go_wp2_with fail
  (with_reducible refine (spec_l02Draw g _ (by (repeat (first | exact S.out | with_reducible refine Src.al ?_ _ | with_reducible refine Src.dr ?_ _ | with_reducible refine Src.drw ?_ | ((with_reducible refine Src.new ?_ ?_ _ _); rotate_left; focus omega))))).mono ?_)
  rintro e w1 ⟨a, b, rfl, hs, hg⟩
  replace G : w.grownBy w1 (some g) := Gr.tr (by (repeat (first | exact G | with_reducible refine Gr.al ?_ _ | with_reducible refine Gr.dr ?_ _ | with_reducible refine Gr.drw ?_ | ((with_reducible refine Gr.new ?_ ?_ _ _); rotate_left; focus omega)))) hg
  first | replace fc0 := frz_gr fc0 (by omega) (by omega) hg | replace fc0 := frz_gr (frz_alloc fc0 (by omega) _) (by simp; omega) (by omega) hg
  first | replace c0 := cell_gr c0 (by simp) (by omega) hg | replace c0 := cell_gr (cell_alloc c0 (by omega) _) (by simp) (by omega) hg
  replace zc0 := lt_cell c0 (by simp)
  clear S
  have S := Lib.hid hs
  have zG := G.size
  clear hs hg
  go_upto_region 3 with fail
  first | have lc1 : w.heap.size < w1.heap.size := by omega | have lc1 : w.heap.size ≤ w1.heap.size := by omega
  replace fc0 := frz_alloc fc0 (by omega) (.cells #[Value.int .i64 a, Value.int .i64 b] 40)
  replace c0 := cell_alloc c0 (by omega) (.cells #[Value.int .i64 a, Value.int .i64 b] 40)
  replace zc0 := lt_cell c0 (by simp)
  have c1 := cell_new w1 #[Value.int .i64 a, Value.int .i64 b] 40
  have fc1 := frz_new w1 #[Value.int .i64 a, Value.int .i64 b] 40
  replace G : w.grownBy (w1.alloc (.cells #[Value.int .i64 a, Value.int .i64 b] 40)) (some g) := Gr.al G _
  replace S := Lib.hid (S.out.al (.cells #[Value.int .i64 a, Value.int .i64 b] 40))
  have zc1 := lt_cell c1 (by simp)
  generalize w1.alloc (.cells #[Value.int .i64 a, Value.int .i64 b] 40) = w2 at *
  generalize w1.heap.size = b1 at *
  try have nc1 : ¬ b1 = w.heap.size := by omega
  try have mc1 : ¬ w.heap.size = b1 := by omega
  clear lc1
  go_region_held3 (fun w' => w'.cell? ⟨b1, 0, none⟩ = some (.int .i64 a) ∧ w'.cell? ⟨b1, 1, none⟩ = some (.int .i64 b))
    (first | exact ⟨c1 0, c1 1⟩ | (constructor <;> (repeat (first | rw [World.cell?_setCell_other _ _ _ _ (by simp only [ne_eq, Addr.mk.injEq, not_and]; intros; omega)] | rw [World.cell?_alloc_lt _ _ _ (by simp; omega)])) <;> first | exact c1 0 | exact c1 1))
    (first | (go_at_call 104; (with_reducible refine (spec_Next g _ _ (by (repeat (first | exact S.out | with_reducible refine Src.al ?_ _ | with_reducible refine Src.dr ?_ _ | with_reducible refine Src.drw ?_ | ((with_reducible refine Src.new ?_ ?_ _ _); rotate_left; focus omega)))) (by omega)).mono ?_); rintro e w3 ⟨x3, hx3, rfl, hs, hg⟩; (try replace hg := Gr.un hg); replace G : w.grownBy w3 (some g) := Gr.tr (by (repeat (first | exact G | with_reducible refine Gr.al ?_ _ | with_reducible refine Gr.dr ?_ _ | with_reducible refine Gr.drw ?_ | ((with_reducible refine Gr.new ?_ ?_ _ _); rotate_left; focus omega)))) hg; (first | replace fc0 := frz_gr fc0 (by omega) (by omega) hg | replace fc0 := frz_gr (frz_alloc fc0 (by omega) _) (by simp; omega) (by omega) hg); (first | replace c0 := cell_gr c0 (by simp) (by omega) hg | replace c0 := cell_gr (cell_alloc c0 (by omega) _) (by simp) (by omega) hg); replace zc0 := lt_cell c0 (by simp); (first | replace fc1 := frz_gr fc1 (by omega) (by omega) hg | replace fc1 := frz_gr (frz_alloc fc1 (by omega) _) (by simp; omega) (by omega) hg); (first | replace c1 := cell_gr c1 (by simp) (by omega) hg | replace c1 := cell_gr (cell_alloc c1 (by omega) _) (by simp) (by omega) hg); replace zc1 := lt_cell c1 (by simp); replace S := Lib.hid hs; clear hs hg; have bw : Below v.heap.size v w3 := Gr.below bb G (by omega) (by omega)) | (go_at_call 123; refine (spec_PickN g _ 7 _ [_, _, _, _, _, _, _] _ (by (repeat (first | exact S.out | with_reducible refine Src.al ?_ _ | with_reducible refine Src.dr ?_ _ | with_reducible refine Src.drw ?_ | ((with_reducible refine Src.new ?_ ?_ _ _); rotate_left; focus omega)))) rfl (by decide) (cell_new _ _ _) (by first | omega | (simp; omega))).mono ?_; rintro e w5 ⟨x5, hx5, rfl, hs, hg⟩; (try replace hg := Gr.un hg); replace G : w.grownBy w5 (some g) := Gr.tr (by (repeat (first | exact G | with_reducible refine Gr.al ?_ _ | with_reducible refine Gr.dr ?_ _ | with_reducible refine Gr.drw ?_ | ((with_reducible refine Gr.new ?_ ?_ _ _); rotate_left; focus omega)))) hg; (first | replace fc0 := frz_gr fc0 (by omega) (by omega) hg | replace fc0 := frz_gr (frz_alloc fc0 (by omega) _) (by simp; omega) (by omega) hg); (first | replace c0 := cell_gr c0 (by simp) (by omega) hg | replace c0 := cell_gr (cell_alloc c0 (by omega) _) (by simp) (by omega) hg); replace zc0 := lt_cell c0 (by simp); (first | replace fc1 := frz_gr fc1 (by omega) (by omega) hg | replace fc1 := frz_gr (frz_alloc fc1 (by omega) _) (by simp; omega) (by omega) hg); (first | replace c1 := cell_gr c1 (by simp) (by omega) hg | replace c1 := cell_gr (cell_alloc c1 (by omega) _) (by simp) (by omega) hg); replace zc1 := lt_cell c1 (by simp); replace S := Lib.hid hs; clear hs hg; have bw : Below v.heap.size v w5 := Gr.below bb G (by omega) (by omega)))
  all_goals
    go_wp2_with fail
    refine bodyPost_ret (v := .tuple #[.agg #[.int .i64 a, .int .i64 b], .int .i64 x5]) (by simp (maxDischargeDepth := 8) [results, Try.results41, go_sem, c0]) rfl ?_
    exact ⟨_, _, _, rfl, by (repeat (first | with_reducible exact Below.refl _ _ | with_reducible assumption | ((with_reducible refine Bw.set ?_ ?_); rotate_left; focus omega) | ((with_reducible refine Bw.al ?_ ?_); rotate_left; focus (first | omega | (simp; done) | (simp; omega))) | with_reducible refine Below.drew ?_ | with_reducible refine Bw.dr ?_ _))⟩
def AnyI (w : World) (e : Ending) (w' : World) : Prop := ∃ x : Int, e = .returned (.int .i64 x) ∧ w = w'
set_option maxHeartbeats 400000 in
theorem spec_AbsAny (n : Int) (w : World) : Calls Try.prog 138 #[.int .i64 n] w (AnyI w) := by
  go_enter Try.func138, Try.ntmps138
  go_wp2_with fail
  all_goals
    go_ret
    exact ⟨_, rfl, rfl⟩
set_option maxHeartbeats 4000000 in
theorem spec_DrawRootInterval (A : Option Addr) (c : Nat) (us : List Int) (v : World) (hu : Code us) (hr : Rd v v.heap.size A (bv us)) : Calls Try.prog 77 #[.slice A us.length c] v (IvD v) := by
  have HU := Lib.hid hu
  have HR := Lib.hid hr
  clear hu hr
  go_enter Try.func77, Try.ntmps77
  go_upto_region 1 with fail
  have c0 := cell_new v #[Value.int .i64 0, .int .i64 0] 40
  have fc0 := frz_new v #[Value.int .i64 0, .int .i64 0] 40
  have zc0 := lt_cell c0 (by simp)
  have bb : Below v.heap.size v (v.alloc (.cells #[Value.int .i64 0, .int .i64 0] 40)) := by (repeat (first | with_reducible exact Below.refl _ _ | with_reducible assumption | ((with_reducible refine Bw.set ?_ ?_); rotate_left; focus omega) | ((with_reducible refine Bw.al ?_ ?_); rotate_left; focus (first | omega | (simp; done) | (simp; omega))) | with_reducible refine Below.drew ?_ | with_reducible refine Bw.dr ?_ _))
  generalize v.alloc (.cells #[Value.int .i64 0, .int .i64 0] 40) = X at *
  go_wp2_with fail
  (with_reducible refine (spec_From _ _ us _ HU.out ((HR.out.keep bb).more bb.size)).mono ?_)
  rintro e w ⟨rfl, hs, hb⟩
  replace fc0 := frz_kept hb zc0 fc0
  replace c0 := cell_kept hb zc0 c0
  have gc0 := zc0
  replace zc0 := lt_cell c0 (by simp)
  have zv := bb.size
  replace bb : Below v.heap.size v w := bb.trans (hb.mono (by omega))
  generalize X.heap.size = g at *
  clear hb
  have hgw := hs.lt
  have S := Lib.hid hs
  have G := Gr.refl w g
  have zG := G.size
  clear hs
  go_wp2_with fail
  (with_reducible refine (spec_l02Draw g _ (by (repeat (first | exact S.out | with_reducible refine Src.al ?_ _ | with_reducible refine Src.dr ?_ _ | with_reducible refine Src.drw ?_ | ((with_reducible refine Src.new ?_ ?_ _ _); rotate_left; focus omega))))).mono ?_)
  rintro e w1 ⟨a, b, rfl, hs, hg⟩
  replace G : w.grownBy w1 (some g) := Gr.tr (by (repeat (first | exact G | with_reducible refine Gr.al ?_ _ | with_reducible refine Gr.dr ?_ _ | with_reducible refine Gr.drw ?_ | ((with_reducible refine Gr.new ?_ ?_ _ _); rotate_left; focus omega)))) hg
  first | replace fc0 := frz_gr fc0 (by omega) (by omega) hg | replace fc0 := frz_gr (frz_alloc fc0 (by omega) _) (by simp; omega) (by omega) hg
  first | replace c0 := cell_gr c0 (by simp) (by omega) hg | replace c0 := cell_gr (cell_alloc c0 (by omega) _) (by simp) (by omega) hg
  replace zc0 := lt_cell c0 (by simp)
  clear S
  have S := Lib.hid hs
  have zG := G.size
  clear hs hg
  go_upto_region 3 with fail
  first | have lc1 : w.heap.size < w1.heap.size := by omega | have lc1 : w.heap.size ≤ w1.heap.size := by omega
  replace fc0 := frz_alloc fc0 (by omega) (.cells #[Value.int .i64 a, Value.int .i64 b] 40)
  replace c0 := cell_alloc c0 (by omega) (.cells #[Value.int .i64 a, Value.int .i64 b] 40)
  replace zc0 := lt_cell c0 (by simp)
  have c1 := cell_new w1 #[Value.int .i64 a, Value.int .i64 b] 40
  have fc1 := frz_new w1 #[Value.int .i64 a, Value.int .i64 b] 40
  replace G : w.grownBy (w1.alloc (.cells #[Value.int .i64 a, Value.int .i64 b] 40)) (some g) := Gr.al G _
  replace S := Lib.hid (S.out.al (.cells #[Value.int .i64 a, Value.int .i64 b] 40))
  have zc1 := lt_cell c1 (by simp)
  generalize w1.alloc (.cells #[Value.int .i64 a, Value.int .i64 b] 40) = w2 at *
  generalize w1.heap.size = b1 at *
  try have nc1 : ¬ b1 = w.heap.size := by omega
  try have mc1 : ¬ w.heap.size = b1 := by omega
  clear lc1
  have bw := Gr.below bb G (by omega) (by omega)
  rcases e0 : decide (a < 0) with _ | _
  · go_wp2_with fail
    refine bodyPost_ret (v := .agg #[.int .i64 a, .int .i64 b]) (by simp (maxDischargeDepth := 8) [results, Try.results77, go_sem, c0]) rfl ?_
    exact ⟨_, _, rfl, by (repeat (first | with_reducible exact Below.refl _ _ | with_reducible assumption | ((with_reducible refine Bw.set ?_ ?_); rotate_left; focus omega) | ((with_reducible refine Bw.al ?_ ?_); rotate_left; focus (first | omega | (simp; done) | (simp; omega))) | with_reducible refine Below.drew ?_ | with_reducible refine Bw.dr ?_ _))⟩
  · go_wp2_with fail
    (with_reducible refine (spec_Next g 6 _ (by (repeat (first | exact S.out | with_reducible refine Src.al ?_ _ | with_reducible refine Src.dr ?_ _ | with_reducible refine Src.drw ?_ | ((with_reducible refine Src.new ?_ ?_ _ _); rotate_left; focus omega)))) (by omega)).mono ?_)
    rintro e w3 ⟨x, hx, rfl, hs, hg⟩
    replace G : w.grownBy w3 (some g) := Gr.tr (by (repeat (first | exact G | with_reducible refine Gr.al ?_ _ | with_reducible refine Gr.dr ?_ _ | with_reducible refine Gr.drw ?_ | ((with_reducible refine Gr.new ?_ ?_ _ _); rotate_left; focus omega)))) hg
    first | replace fc0 := frz_gr fc0 (by omega) (by omega) hg | replace fc0 := frz_gr (frz_alloc fc0 (by omega) _) (by simp; omega) (by omega) hg
    first | replace c0 := cell_gr c0 (by simp) (by omega) hg | replace c0 := cell_gr (cell_alloc c0 (by omega) _) (by simp) (by omega) hg
    replace zc0 := lt_cell c0 (by simp)
    first | replace fc1 := frz_gr fc1 (by omega) (by omega) hg | replace fc1 := frz_gr (frz_alloc fc1 (by omega) _) (by simp; omega) (by omega) hg
    first | replace c1 := cell_gr c1 (by simp) (by omega) hg | replace c1 := cell_gr (cell_alloc c1 (by omega) _) (by simp) (by omega) hg
    replace zc1 := lt_cell c1 (by simp)
    clear S
    have S := Lib.hid hs
    have zG := G.size
    clear hs hg
    replace bw := Gr.below bb G (by omega) (by omega)
    clear hx
    rcases e1 : decide (0 < x) with _ | _
    · go_wp2_with fail
      refine bodyPost_ret (v := .agg #[.int .i64 a, .int .i64 b]) (by simp (maxDischargeDepth := 8) [results, Try.results77, go_sem, c0]) rfl ?_
      exact ⟨_, _, rfl, by (repeat (first | with_reducible exact Below.refl _ _ | with_reducible assumption | ((with_reducible refine Bw.set ?_ ?_); rotate_left; focus omega) | ((with_reducible refine Bw.al ?_ ?_); rotate_left; focus (first | omega | (simp; done) | (simp; omega))) | with_reducible refine Below.drew ?_ | with_reducible refine Bw.dr ?_ _))⟩
    · go_upto_region 4 with fail
      go_region_held3 (fun w' => w'.cell? ⟨b1, 0, none⟩ = some (.int .i64 a) ∧ w'.cell? ⟨b1, 1, none⟩ = some (.int .i64 b))
        (first | exact ⟨c1 0, c1 1⟩ | (constructor <;> (repeat (first | rw [World.cell?_setCell_other _ _ _ _ (by simp only [ne_eq, Addr.mk.injEq, not_and]; intros; omega)] | rw [World.cell?_alloc_lt _ _ _ (by simp; omega)])) <;> first | exact c1 0 | exact c1 1))
        (first | (go_at_call 104; (with_reducible refine (spec_Next g _ _ (by (repeat (first | exact S.out | with_reducible refine Src.al ?_ _ | with_reducible refine Src.dr ?_ _ | with_reducible refine Src.drw ?_ | ((with_reducible refine Src.new ?_ ?_ _ _); rotate_left; focus omega)))) (by omega)).mono ?_); rintro e w4 ⟨x4, hx4, rfl, hs, hg⟩; (try replace hg := Gr.un hg); replace G : w.grownBy w4 (some g) := Gr.tr (by (repeat (first | exact G | with_reducible refine Gr.al ?_ _ | with_reducible refine Gr.dr ?_ _ | with_reducible refine Gr.drw ?_ | ((with_reducible refine Gr.new ?_ ?_ _ _); rotate_left; focus omega)))) hg; (first | replace fc0 := frz_gr fc0 (by omega) (by omega) hg | replace fc0 := frz_gr (frz_alloc fc0 (by omega) _) (by simp; omega) (by omega) hg); (first | replace c0 := cell_gr c0 (by simp) (by omega) hg | replace c0 := cell_gr (cell_alloc c0 (by omega) _) (by simp) (by omega) hg); replace zc0 := lt_cell c0 (by simp); (first | replace fc1 := frz_gr fc1 (by omega) (by omega) hg | replace fc1 := frz_gr (frz_alloc fc1 (by omega) _) (by simp; omega) (by omega) hg); (first | replace c1 := cell_gr c1 (by simp) (by omega) hg | replace c1 := cell_gr (cell_alloc c1 (by omega) _) (by simp) (by omega) hg); replace zc1 := lt_cell c1 (by simp); replace S := Lib.hid hs; clear hs hg; have bw : Below v.heap.size v w4 := Gr.below bb G (by omega) (by omega)) | (go_at_call 138; (with_reducible refine (spec_AbsAny _ _).mono ?_); rintro e wq ⟨y, rfl, rfl⟩))
      all_goals
        go_wp2_with fail
        generalize IntKind.i64.wrap (-a) = p
        generalize IntKind.i64.wrap (y + x4) = q
        refine bodyPost_ret (v := .agg #[.int .i64 p, .int .i64 q]) (by simp (maxDischargeDepth := 8) [results, Try.results77, go_sem, c0]) rfl ?_
        exact ⟨_, _, rfl, by (repeat (first | with_reducible exact Below.refl _ _ | with_reducible assumption | ((with_reducible refine Bw.set ?_ ?_); rotate_left; focus omega) | ((with_reducible refine Bw.al ?_ ?_); rotate_left; focus (first | omega | (simp; done) | (simp; omega))) | with_reducible refine Below.drew ?_ | with_reducible refine Bw.dr ?_ _))⟩
set_option maxHeartbeats 4000000 in
theorem spec_DrawMeetIntervals (A : Option Addr) (cap : Nat) (us : List Int) (v : World) (hu : Code us) (hr : Rd v v.heap.size A (bv us)) : Calls Try.prog 30 #[.slice A us.length cap] v (IvD2 v) := by
  have HU := Lib.hid hu
  have HR := Lib.hid hr
  clear hu hr
  go_enter Try.func30, Try.ntmps30
  go_upto_region 1 with fail
  obtain ⟨c0, fc0, c9, fc9, zz, bb⟩ := kept2 (w := v) (A := #[Value.int .i64 0, .int .i64 0]) (C := #[Value.int .i64 0, .int .i64 0]) (ta := 40) (tc := 40) (Below.refl _ _)
  generalize (v.alloc (.cells #[Value.int .i64 0, .int .i64 0] 40)).alloc (.cells #[Value.int .i64 0, .int .i64 0] 40) = X at *
  have zc0 := lt_cell c0 (by simp)
  have zc9 := lt_cell c9 (by simp)
  go_wp2_with fail
  (with_reducible refine (spec_From _ _ us _ HU.out ((HR.out.keep bb).more bb.size)).mono ?_)
  rintro e w ⟨rfl, hs, hb⟩
  replace fc0 := frz_kept hb zc0 fc0
  replace c0 := cell_kept hb zc0 c0
  have gc0 := zc0
  replace zc0 := lt_cell c0 (by simp)
  replace fc9 := frz_kept hb zc9 fc9
  replace c9 := cell_kept hb zc9 c9
  have gc9 := zc9
  replace zc9 := lt_cell c9 (by simp)
  have zv := bb.size
  replace bb : Below v.heap.size v w := bb.trans (hb.mono (by omega))
  generalize X.heap.size = g at *
  clear hb
  have hgw := hs.lt
  have S := Lib.hid hs
  have G := Gr.refl w g
  have zG := G.size
  clear hs
  go_wp2_with fail
  (with_reducible refine (spec_DrawAddIntervals _ _ us _ HU.out ((HR.out.keep bb).more bb.size)).mono ?_)
  rintro e w1 ⟨a, b, c, d, rfl, hb1⟩
  replace fc0 := frz_kept hb1 (by omega) fc0
  replace c0 := cell_kept hb1 (by omega) c0
  replace zc0 := lt_cell c0 (by simp)
  replace fc9 := frz_kept hb1 (by omega) fc9
  replace c9 := cell_kept hb1 (by omega) c9
  replace zc9 := lt_cell c9 (by simp)
  replace S := Lib.hid (S.out.bw hb1)
  replace G : w.grownBy w1 (some g) := Gr.bw G hb1
  replace zG := G.size
  clear hb1
  go_upto_region 3 with fail
  have hb1 : Below w1.heap.size w1 ((w1.alloc (.cells #[Value.int .i64 a, Value.int .i64 b] 40)).alloc (.cells #[Value.int .i64 c, Value.int .i64 d] 40)) := by (repeat (first | with_reducible exact Below.refl _ _ | with_reducible assumption | ((with_reducible refine Bw.set ?_ ?_); rotate_left; focus omega) | ((with_reducible refine Bw.al ?_ ?_); rotate_left; focus (first | omega | (simp; done) | (simp; omega))) | with_reducible refine Below.drew ?_ | with_reducible refine Bw.dr ?_ _))
  replace fc0 := frz_kept hb1 (by omega) fc0
  replace c0 := cell_kept hb1 (by omega) c0
  replace zc0 := lt_cell c0 (by simp)
  replace fc9 := frz_kept hb1 (by omega) fc9
  replace c9 := cell_kept hb1 (by omega) c9
  replace zc9 := lt_cell c9 (by simp)
  obtain ⟨c1, fc1, c2, fc2, _, _⟩ := kept2 (w := w1) (A := #[Value.int .i64 a, Value.int .i64 b]) (C := #[Value.int .i64 c, Value.int .i64 d]) (ta := 40) (tc := 40) (Below.refl _ _)
  replace S := Lib.hid (S.out.bw hb1)
  replace G : w.grownBy _ (some g) := Gr.bw G hb1
  have zc1 := lt_cell c1 (by simp)
  have zc2 := lt_cell c2 (by simp)
  clear hb1
  generalize (w1.alloc (.cells #[Value.int .i64 a, Value.int .i64 b] 40)).alloc (.cells #[Value.int .i64 c, Value.int .i64 d] 40) = w2 at *
  generalize w1.heap.size = b1 at *
  go_wp2_with fail
  (with_reducible refine (spec_Next g 2 _ (by (repeat (first | exact S.out | with_reducible refine Src.al ?_ _ | with_reducible refine Src.dr ?_ _ | with_reducible refine Src.drw ?_ | ((with_reducible refine Src.new ?_ ?_ _ _); rotate_left; focus omega)))) (by omega)).mono ?_)
  rintro e w3 ⟨x, hx, rfl, hs, hg⟩
  replace G : w.grownBy w3 (some g) := Gr.tr (by (repeat (first | exact G | with_reducible refine Gr.al ?_ _ | with_reducible refine Gr.dr ?_ _ | with_reducible refine Gr.drw ?_ | ((with_reducible refine Gr.new ?_ ?_ _ _); rotate_left; focus omega)))) hg
  first | replace fc0 := frz_gr fc0 (by omega) (by omega) hg | replace fc0 := frz_gr (frz_alloc fc0 (by omega) _) (by simp; omega) (by omega) hg
  first | replace c0 := cell_gr c0 (by simp) (by omega) hg | replace c0 := cell_gr (cell_alloc c0 (by omega) _) (by simp) (by omega) hg
  replace zc0 := lt_cell c0 (by simp)
  first | replace fc9 := frz_gr fc9 (by omega) (by omega) hg | replace fc9 := frz_gr (frz_alloc fc9 (by omega) _) (by simp; omega) (by omega) hg
  first | replace c9 := cell_gr c9 (by simp) (by omega) hg | replace c9 := cell_gr (cell_alloc c9 (by omega) _) (by simp) (by omega) hg
  replace zc9 := lt_cell c9 (by simp)
  first | replace fc1 := frz_gr fc1 (by omega) (by omega) hg | replace fc1 := frz_gr (frz_alloc fc1 (by omega) _) (by simp; omega) (by omega) hg
  first | replace c1 := cell_gr c1 (by simp) (by omega) hg | replace c1 := cell_gr (cell_alloc c1 (by omega) _) (by simp) (by omega) hg
  replace zc1 := lt_cell c1 (by simp)
  first | replace fc2 := frz_gr fc2 (by omega) (by omega) hg | replace fc2 := frz_gr (frz_alloc fc2 (by omega) _) (by simp; omega) (by omega) hg
  first | replace c2 := cell_gr c2 (by simp) (by omega) hg | replace c2 := cell_gr (cell_alloc c2 (by omega) _) (by simp) (by omega) hg
  replace zc2 := lt_cell c2 (by simp)
  clear S
  have S := Lib.hid hs
  have zG := G.size
  clear hs hg
  have bw := Gr.below bb G (by omega) (by omega)
  clear hx
  rcases e0 : (x == 0) with _ | _
  · go_wp2_with fail
    go_region
    all_goals
      go_wp2_with fail
      refine bodyPost_ret (v := .tuple #[.agg #[.int .i64 a, .int .i64 b], .agg #[.int .i64 c, .int .i64 d]]) (by simp (maxDischargeDepth := 8) [results, Try.results30, go_sem, c0, c9]) rfl ?_
      exact ⟨_, _, _, _, rfl, by (repeat (first | with_reducible exact Below.refl _ _ | with_reducible assumption | ((with_reducible refine Bw.set ?_ ?_); rotate_left; focus omega) | ((with_reducible refine Bw.al ?_ ?_); rotate_left; focus (first | omega | (simp; done) | (simp; omega))) | with_reducible refine Below.drew ?_ | with_reducible refine Bw.dr ?_ _))⟩
  · go_upto_region 4 with fail
    go_region_held3 (fun w' => w'.cell? ⟨b1, 0, none⟩ = some (.int .i64 a) ∧ w'.cell? ⟨b1, 1, none⟩ = some (.int .i64 b))
      (first | exact ⟨c1 0, c1 1⟩ | (constructor <;> (repeat (first | rw [World.cell?_setCell_other _ _ _ _ (by simp only [ne_eq, Addr.mk.injEq, not_and]; intros; omega)] | rw [World.cell?_alloc_lt _ _ _ (by simp; omega)])) <;> first | exact c1 0 | exact c1 1))
      (first | (go_at_call 104; (with_reducible refine (spec_Next g _ _ (by (repeat (first | exact S.out | with_reducible refine Src.al ?_ _ | with_reducible refine Src.dr ?_ _ | with_reducible refine Src.drw ?_ | ((with_reducible refine Src.new ?_ ?_ _ _); rotate_left; focus omega)))) (by omega)).mono ?_); rintro e w4 ⟨x4, hx4, rfl, hs, hg⟩; (try replace hg := Gr.un hg); replace G : w.grownBy w4 (some g) := Gr.tr (by (repeat (first | exact G | with_reducible refine Gr.al ?_ _ | with_reducible refine Gr.dr ?_ _ | with_reducible refine Gr.drw ?_ | ((with_reducible refine Gr.new ?_ ?_ _ _); rotate_left; focus omega)))) hg; (first | replace fc0 := frz_gr fc0 (by omega) (by omega) hg | replace fc0 := frz_gr (frz_alloc fc0 (by omega) _) (by simp; omega) (by omega) hg); (first | replace c0 := cell_gr c0 (by simp) (by omega) hg | replace c0 := cell_gr (cell_alloc c0 (by omega) _) (by simp) (by omega) hg); replace zc0 := lt_cell c0 (by simp); (first | replace fc9 := frz_gr fc9 (by omega) (by omega) hg | replace fc9 := frz_gr (frz_alloc fc9 (by omega) _) (by simp; omega) (by omega) hg); (first | replace c9 := cell_gr c9 (by simp) (by omega) hg | replace c9 := cell_gr (cell_alloc c9 (by omega) _) (by simp) (by omega) hg); replace zc9 := lt_cell c9 (by simp); (first | replace fc1 := frz_gr fc1 (by omega) (by omega) hg | replace fc1 := frz_gr (frz_alloc fc1 (by omega) _) (by simp; omega) (by omega) hg); (first | replace c1 := cell_gr c1 (by simp) (by omega) hg | replace c1 := cell_gr (cell_alloc c1 (by omega) _) (by simp) (by omega) hg); replace zc1 := lt_cell c1 (by simp); (first | replace fc2 := frz_gr fc2 (by omega) (by omega) hg | replace fc2 := frz_gr (frz_alloc fc2 (by omega) _) (by simp; omega) (by omega) hg); (first | replace c2 := cell_gr c2 (by simp) (by omega) hg | replace c2 := cell_gr (cell_alloc c2 (by omega) _) (by simp) (by omega) hg); replace zc2 := lt_cell c2 (by simp); replace S := Lib.hid hs; clear hs hg; have bw : Below v.heap.size v w4 := Gr.below bb G (by omega) (by omega)))
    all_goals
      go_upto_region 5 with fail
      generalize IntKind.i64.wrap (IntKind.i64.wrap (a + x4) - 10) = q at *
      replace fc0 := frz_put fc0 (g' := (b1 + 1)) 0 (.int .i64 q)
      replace c0 := cell_far c0 (g' := (b1 + 1)) (by omega) 0 (.int .i64 q)
      replace zc0 := lt_cell c0 (by simp)
      replace fc9 := frz_put fc9 (g' := (b1 + 1)) 0 (.int .i64 q)
      replace c9 := cell_far c9 (g' := (b1 + 1)) (by omega) 0 (.int .i64 q)
      replace zc9 := lt_cell c9 (by simp)
      replace fc1 := frz_put fc1 (g' := (b1 + 1)) 0 (.int .i64 q)
      replace c1 := cell_far c1 (g' := (b1 + 1)) (by omega) 0 (.int .i64 q)
      replace zc1 := lt_cell c1 (by simp)
      replace fc2 := frz_put fc2 (g' := (b1 + 1)) 0 (.int .i64 q)
      replace c2 := put20 c2 (.int .i64 q)
      replace zc2 := lt_cell c2 (by simp)
      replace S := Lib.hid (S.out.new (b := (b1 + 1)) (by omega) 0 (.int .i64 q))
      replace G := Gr.new G (b := (b1 + 1)) (by omega) 0 (.int .i64 q)
      generalize w4.setCell ⟨(b1 + 1), 0, none⟩ (.int .i64 q) = w5 at *
      go_region_held3 (fun w' => w'.cell? ⟨b1 + 1, 0, none⟩ = some (.int .i64 q)) (first | exact c2 0 | (rw [World.cell?_setCell_other _ _ _ _ (by simp)]; exact c2 0))
        (first | (go_at_call 104; (with_reducible refine (spec_Next g _ _ (by (repeat (first | exact S.out | with_reducible refine Src.al ?_ _ | with_reducible refine Src.dr ?_ _ | with_reducible refine Src.drw ?_ | ((with_reducible refine Src.new ?_ ?_ _ _); rotate_left; focus omega)))) (by omega)).mono ?_); rintro e w6 ⟨x6, hx6, rfl, hs, hg⟩; (try replace hg := Gr.un hg); replace G : w.grownBy w6 (some g) := Gr.tr (by (repeat (first | exact G | with_reducible refine Gr.al ?_ _ | with_reducible refine Gr.dr ?_ _ | with_reducible refine Gr.drw ?_ | ((with_reducible refine Gr.new ?_ ?_ _ _); rotate_left; focus omega)))) hg; (first | replace fc0 := frz_gr fc0 (by omega) (by omega) hg | replace fc0 := frz_gr (frz_alloc fc0 (by omega) _) (by simp; omega) (by omega) hg); (first | replace c0 := cell_gr c0 (by simp) (by omega) hg | replace c0 := cell_gr (cell_alloc c0 (by omega) _) (by simp) (by omega) hg); replace zc0 := lt_cell c0 (by simp); (first | replace fc9 := frz_gr fc9 (by omega) (by omega) hg | replace fc9 := frz_gr (frz_alloc fc9 (by omega) _) (by simp; omega) (by omega) hg); (first | replace c9 := cell_gr c9 (by simp) (by omega) hg | replace c9 := cell_gr (cell_alloc c9 (by omega) _) (by simp) (by omega) hg); replace zc9 := lt_cell c9 (by simp); (first | replace fc1 := frz_gr fc1 (by omega) (by omega) hg | replace fc1 := frz_gr (frz_alloc fc1 (by omega) _) (by simp; omega) (by omega) hg); (first | replace c1 := cell_gr c1 (by simp) (by omega) hg | replace c1 := cell_gr (cell_alloc c1 (by omega) _) (by simp) (by omega) hg); replace zc1 := lt_cell c1 (by simp); (first | replace fc2 := frz_gr fc2 (by omega) (by omega) hg | replace fc2 := frz_gr (frz_alloc fc2 (by omega) _) (by simp; omega) (by omega) hg); (first | replace c2 := cell_gr c2 (by simp) (by omega) hg | replace c2 := cell_gr (cell_alloc c2 (by omega) _) (by simp) (by omega) hg); replace zc2 := lt_cell c2 (by simp); replace S := Lib.hid hs; clear hs hg; have bw : Below v.heap.size v w6 := Gr.below bb G (by omega) (by omega)))
      all_goals
        go_upto_region 6 with fail
        generalize IntKind.i64.wrap (q + x6) = r at *
        replace fc0 := frz_put fc0 (g' := (b1 + 1)) 1 (.int .i64 r)
        replace c0 := cell_far c0 (g' := (b1 + 1)) (by omega) 1 (.int .i64 r)
        replace zc0 := lt_cell c0 (by simp)
        replace fc9 := frz_put fc9 (g' := (b1 + 1)) 1 (.int .i64 r)
        replace c9 := cell_far c9 (g' := (b1 + 1)) (by omega) 1 (.int .i64 r)
        replace zc9 := lt_cell c9 (by simp)
        replace fc1 := frz_put fc1 (g' := (b1 + 1)) 1 (.int .i64 r)
        replace c1 := cell_far c1 (g' := (b1 + 1)) (by omega) 1 (.int .i64 r)
        replace zc1 := lt_cell c1 (by simp)
        replace fc2 := frz_put fc2 (g' := (b1 + 1)) 1 (.int .i64 r)
        replace c2 := put21 c2 (.int .i64 r)
        replace zc2 := lt_cell c2 (by simp)
        replace S := Lib.hid (S.out.new (b := (b1 + 1)) (by omega) 1 (.int .i64 r))
        replace G := Gr.new G (b := (b1 + 1)) (by omega) 1 (.int .i64 r)
        generalize w6.setCell ⟨(b1 + 1), 1, none⟩ (.int .i64 r) = w7 at *
        replace bw := Gr.below bb G (by omega) (by omega)
        go_region
        all_goals
          go_wp2_with fail
          refine bodyPost_ret (v := .tuple #[.agg #[.int .i64 a, .int .i64 b], .agg #[.int .i64 q, .int .i64 r]]) (by simp (maxDischargeDepth := 8) [results, Try.results30, go_sem, c0, c9]) rfl ?_
          exact ⟨_, _, _, _, rfl, by (repeat (first | with_reducible exact Below.refl _ _ | with_reducible assumption | ((with_reducible refine Bw.set ?_ ?_); rotate_left; focus omega) | ((with_reducible refine Bw.al ?_ ?_); rotate_left; focus (first | omega | (simp; done) | (simp; omega))) | with_reducible refine Below.drew ?_ | with_reducible refine Bw.dr ?_ _))⟩

end Go.Proofs.Ytpejbmfapdocaaa
