/- Arguments of the hubs' texts' law drawn. Conditions: those that each theorem names. -/
import Derived.Test.YtpejbmfapdocaaaDrX
import Derived.Test.YtpejbmfapdocaaaDrT
import Derived.Test.YtpejbmfapdocaaaDrL
import Derived.Test.YtpejbmfapdocaaaHbP
namespace Go.Proofs.Ytpejbmfapdocaaa
open Go.RowKit

theorem hbB_size {h l r lo ro : Int} (k : hubB h l r lo ro = true) : (hbB h l r lo ro).size ≤ 120 := by
  have := joinB_size (b := slash) (by decide) (hbL_size (hbV k)) 5
  unfold hbB
  omega
set_option maxHeartbeats 4000000 in
theorem spec_DrawHubText (A : Option Addr) (c : Nat) (us : List Int) (v : World) (hu : Code us) (hr : Rd v v.heap.size A (bv us)) : Calls Try.prog 23 #[.slice A us.length c] v (HubD v) := by
  have HU := Lib.hid hu
  have HR := Lib.hid hr
  clear hu hr
  go_enter Try.func23, Try.ntmps23
  go_upto_region 1 with fail
  have c0 := cell_new v #[Value.int .i64 0, Value.int .i64 0, Value.int .i64 0, Value.int .i64 0, Value.int .i64 0] 33
  have fc0 := frz_new v #[Value.int .i64 0, Value.int .i64 0, Value.int .i64 0, Value.int .i64 0, Value.int .i64 0] 33
  have zc0 := lt_cell c0 (by simp)
  have bb : Below v.heap.size v (v.alloc (.cells #[Value.int .i64 0, Value.int .i64 0, Value.int .i64 0, Value.int .i64 0, Value.int .i64 0] 33)) := by (repeat (first | with_reducible exact Below.refl _ _ | with_reducible assumption | ((with_reducible refine Bw.set ?_ ?_); rotate_left; focus omega) | ((with_reducible refine Bw.al ?_ ?_); rotate_left; focus (first | omega | (simp; done) | (simp; omega))) | with_reducible refine Below.drew ?_ | with_reducible refine Bw.dr ?_ _))
  generalize v.alloc (.cells #[Value.int .i64 0, Value.int .i64 0, Value.int .i64 0, Value.int .i64 0, Value.int .i64 0] 33) = X at *
  go_wp2_with fail
  (with_reducible refine (spec_From _ _ us _ HU.out ((HR.out.keep bb).more bb.size)).mono ?_)
  rintro e w ⟨rfl, hs, hb⟩
  replace fc0 := frz_kept hb zc0 fc0
  replace c0 := cell_kept hb zc0 c0
  have gc0 := zc0
  replace zc0 := lt_cell c0 (by simp)
  have zv := bb.size
  replace bb : Below v.heap.size v w := bb.trans (hb.mono (by omega))
  generalize X.heap.size = g at *
  clear hb
  have hgw := hs.lt
  have S := Lib.hid hs
  have G := Gr.refl w g
  have zG := G.size
  clear hs
  go_wp2_with fail
  (with_reducible refine (spec_l04Draw g _ (by (repeat (first | exact S.out | with_reducible refine Src.al ?_ _ | with_reducible refine Src.dr ?_ _ | with_reducible refine Src.drw ?_ | ((with_reducible refine Src.new ?_ ?_ _ _); rotate_left; focus omega))))).mono ?_)
  rintro e w1 ⟨h, l, r, lo, ro, _, rfl, hs, hg⟩
  replace G : w.grownBy w1 (some g) := Gr.tr (by (repeat (first | exact G | with_reducible refine Gr.al ?_ _ | with_reducible refine Gr.dr ?_ _ | with_reducible refine Gr.drw ?_ | ((with_reducible refine Gr.new ?_ ?_ _ _); rotate_left; focus omega)))) hg
  first | replace fc0 := frz_gr fc0 (by omega) (by omega) hg | replace fc0 := frz_gr (frz_alloc fc0 (by omega) _) (by simp; omega) (by omega) hg
  first | replace c0 := cell_gr c0 (by simp) (by omega) hg | replace c0 := cell_gr (cell_alloc c0 (by omega) _) (by simp) (by omega) hg
  replace zc0 := lt_cell c0 (by simp)
  replace bb := Gr.below bb G (by omega) (by omega)
  clear S hs hg
  go_wp2_with fail
  refine post_cell1 (v := .agg #[.int .i64 (h), .int .i64 (l), .int .i64 (r), .int .i64 (lo), .int .i64 (ro)]) Try.results23 rfl rfl (load5h (put5 c0 _ _ _ _ _)) ?_
  exact ⟨_, _, _, _, _, rfl, by (repeat (first | with_reducible exact Below.refl _ _ | with_reducible assumption | ((with_reducible refine Bw.set ?_ ?_); rotate_left; focus omega) | ((with_reducible refine Bw.al ?_ ?_); rotate_left; focus (first | omega | (simp; done) | (simp; omega))) | with_reducible refine Below.drew ?_ | with_reducible refine Bw.dr ?_ _))⟩
set_option maxRecDepth 100000 in
set_option maxHeartbeats 1000000 in
theorem spec_DrawReadHub (A : Option Addr) (cap : Nat) (us : List Int) (v : World) (hu : Code us) (hr : Rd v v.heap.size A (bv us)) : Calls Try.prog 26 #[.slice A us.length cap] v (StrD 200 v) := by
  have HU := Lib.hid hu
  have HR := Lib.hid hr
  clear hu hr
  have bb := Below.refl v.heap.size v
  have zb := bb.size
  go_enter Try.func26, Try.ntmps26
  go_wp2_with fail
  (with_reducible refine (spec_From _ _ us _ HU.out (HR.out)).mono ?_)
  rintro e w ⟨rfl, hs, hb⟩
  have bb : Below v.heap.size v w := hb
  have zv : v.heap.size ≤ v.heap.size := Nat.le_refl _
  obtain ⟨g, hgg⟩ : ∃ g, v.heap.size = g := ⟨_, rfl⟩
  rw [hgg] at hs
  have hgw := hs.lt
  have S := Lib.hid hs
  have G := Gr.refl w g
  have zG := G.size
  have hgv : v.heap.size ≤ g := Nat.le_of_eq hgg
  rw [hgg]
  clear hb hs hgg
  go_wp2_with fail
  (with_reducible refine (spec_l04Good g _ (by (repeat (first | exact S.out | with_reducible refine Src.al ?_ _ | with_reducible refine Src.dr ?_ _ | with_reducible refine Src.drw ?_ | ((with_reducible refine Src.new ?_ ?_ _ _); rotate_left; focus omega))))).mono ?_)
  rintro e w1 ⟨h, l, r, lo, ro, hok, rfl, hs, hg⟩
  replace G : w.grownBy w1 (some g) := Gr.tr (by (repeat (first | exact G | with_reducible refine Gr.al ?_ _ | with_reducible refine Gr.dr ?_ _ | with_reducible refine Gr.drw ?_ | ((with_reducible refine Gr.new ?_ ?_ _ _); rotate_left; focus omega)))) hg
  clear S
  have S := Lib.hid hs
  clear hs hg
  replace zG := G.size
  replace hok := Lib.hid hok
  go_wp2_with fail
  (with_reducible refine (spec_hubText h l r lo ro _ hok.out).mono ?_)
  rintro e w4 ⟨rfl, hb1⟩
  have ht := hbB_size hok.out
  generalize hbB h l r lo ro = t at *
  replace S := Lib.hid (S.out.bw hb1)
  replace G : w.grownBy w4 (some g) := Gr.bw G hb1
  replace zG := G.size
  clear hb1
  go_wp2_with fail
  (with_reducible refine (spec_Next g 3 _ (by (repeat (first | exact S.out | with_reducible refine Src.al ?_ _ | with_reducible refine Src.dr ?_ _ | with_reducible refine Src.drw ?_ | ((with_reducible refine Src.new ?_ ?_ _ _); rotate_left; focus omega)))) (by omega)).mono ?_)
  rintro e w5 ⟨x5, hx5, rfl, hs, hg⟩
  replace G : w.grownBy w5 (some g) := Gr.tr (by (repeat (first | exact G | with_reducible refine Gr.al ?_ _ | with_reducible refine Gr.dr ?_ _ | with_reducible refine Gr.drw ?_ | ((with_reducible refine Gr.new ?_ ?_ _ _); rotate_left; focus omega)))) hg
  clear S
  have S := Lib.hid hs
  have zG := G.size
  clear hs hg
  clear hx5
  rcases e0 : (x5 == 0) with _ | _
  · replace bb := Gr.below bb G (by omega) (by omega)
    go_wp2_with fail
    go_ret
    exact ⟨_, by omega, rfl, bb⟩
  · go_wp2_with fail
    (with_reducible refine (spec_Damage g t _ (by (repeat (first | exact S.out | with_reducible refine Src.al ?_ _ | with_reducible refine Src.dr ?_ _ | with_reducible refine Src.drw ?_ | ((with_reducible refine Src.new ?_ ?_ _ _); rotate_left; focus omega)))) (by omega)).mono ?_)
    rintro e w6 ⟨t2, ht2, rfl, hs, hg⟩
    replace G : w.grownBy w6 (some g) := Gr.tr (by (repeat (first | exact G | with_reducible refine Gr.al ?_ _ | with_reducible refine Gr.dr ?_ _ | with_reducible refine Gr.drw ?_ | ((with_reducible refine Gr.new ?_ ?_ _ _); rotate_left; focus omega)))) hg
    replace bb := Gr.below bb G (by omega) (by omega)
    go_wp2_with fail
    go_ret
    exact ⟨_, by omega, rfl, bb⟩

end Go.Proofs.Ytpejbmfapdocaaa
