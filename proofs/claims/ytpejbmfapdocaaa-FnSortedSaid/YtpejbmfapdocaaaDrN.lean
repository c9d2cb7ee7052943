/- Lists of numbers drawn. Conditions: those that each theorem names. -/
import Derived.Test.YtpejbmfapdocaaaDrG
import Derived.Test.YtpejbmfapdocaaaLt
namespace Go.Proofs.Ytpejbmfapdocaaa
open Go.RowKit

theorem allV_snoc {xs : List Int} {x : Int} (h : allV xs = true) (hx : isVal x = true) : allV (xs ++ [x]) = true := allV_t fun j hj => by
  rw [List.length_append, List.length_singleton] at hj
  rw [List.getD_eq_getElem?_getD]
  rcases Nat.lt_or_ge j xs.length with h1 | h1
  · rw [List.getElem?_append_left h1]
    have := allV_get h h1
    rwa [List.getD_eq_getElem?_getD] at this
  · rw [List.getElem?_append_right h1, show j - xs.length = 0 by omega]
    exact hx
theorem Try.infoN : (Try.prog.info? 2).map (fun i => (i.zero, i.size, i.bytes)) = some (some (.int .i64 0), 1, 8) := by kernel_rfl
theorem zeros_iv (n : Nat) : madeCells #[Value.int .i64 0] n = (iv (List.replicate n 0)).toArray := by
  apply Array.ext'
  rw [toList_madeCells_one]
  simp [iv]
def IntsP (g : Nat) (w : World) (e : Ending) (w' : World) : Prop := ∃ (A : Option Addr) (c : Nat) (xs : List Int), e = .returned (.slice A xs.length c) ∧ xs.length ≤ 61 ∧ Rd w' w'.heap.size A (iv xs) ∧ Src w' g ∧ w.grownBy w' (some g)
set_option maxRecDepth 100000 in
set_option maxHeartbeats 4000000 in
theorem spec_DrawList (g : Nat) (w : World) (hs : Src w g) : Calls Try.prog 98 #[.pointer (some ⟨g, 0, none⟩)] w (IntsP g w) := by
  obtain ⟨i0, hi0, hz0, hz1, hz2⟩ := info_parts Try.infoN
  have hgw := hs.lt
  have S := Lib.hid hs
  have G := Gr.refl w g
  have zG := G.size
  clear hs
  go_enter Try.func98, Try.ntmps98
  go_upto_region 2 with fail
  go_wp2_with fail
  (with_reducible refine (spec_Next g 6 _ (by (repeat (first | exact S.out | with_reducible refine Src.al ?_ _ | with_reducible refine Src.dr ?_ _ | with_reducible refine Src.drw ?_ | ((with_reducible refine Src.new ?_ ?_ _ _); rotate_left; focus omega)))) (by omega)).mono ?_)
  rintro e w1 ⟨x, hx, rfl, hs, hg⟩
  have hown := own_gr (own_none w _) hg hgw
  replace G : w.grownBy w1 (some g) := Gr.tr (by (repeat (first | exact G | with_reducible refine Gr.al ?_ _ | with_reducible refine Gr.dr ?_ _ | with_reducible refine Gr.drw ?_ | ((with_reducible refine Gr.new ?_ ?_ _ _); rotate_left; focus omega)))) hg
  obtain ⟨x, rfl⟩ : ∃ j : Nat, x = (j : Int) := ⟨Int.toNat x, by have := hx.1; omega⟩
  have hx2 : x ≤ 5 := by have := hx.2; omega
  clear hx hg
  go_wp2_with fail
  go_loopw [4, 3] (fun s4 s3 wr => ∃ (n : Nat) (val : Value) (xs : List Int), s4 = .int .i64 n ∧ val = s3 ∧ xs.length + n ≤ 5 ∧ wr.ownsRow w.heap.size 2 1 val xs.length (iv xs) ∧ Src wr g ∧ w.grownBy wr (some g)) (fun s4 _ _ => (intOf s4).toNat)
  case atStart => exact ⟨x, _, [], rfl, rfl, by simpa using hx2, hown, hs, G⟩
  case round =>
    clear S G hown hs hx2
    obtain ⟨n, val, xs, rfl, rfl, hn, hown, hs, hg⟩ := hrel
    have S := Lib.hid hs
    have G := hg
    have HW := Lib.hid hown
    have zG := G.size
    clear hs hg hown
    rcases Nat.eq_zero_or_pos n with h0 | h0
    · subst h0
      go_wp2_with fail
      (with_reducible refine (spec_Next g 24 _ (by (repeat (first | exact S.out | with_reducible refine Src.al ?_ _ | with_reducible refine Src.dr ?_ _ | with_reducible refine Src.drw ?_ | ((with_reducible refine Src.new ?_ ?_ _ _); rotate_left; focus omega)))) (by omega)).mono ?_)
      rintro e w4 ⟨y, _, rfl, hs, hg⟩
      replace HW := Lib.hid (own_gr HW.out hg hgw)
      replace G : w.grownBy w4 (some g) := Gr.tr (by (repeat (first | exact G | with_reducible refine Gr.al ?_ _ | with_reducible refine Gr.dr ?_ _ | with_reducible refine Gr.drw ?_ | ((with_reducible refine Gr.new ?_ ?_ _ _); rotate_left; focus omega)))) hg
      clear S
      have S := Lib.hid hs
      clear hs hg
      rcases e0 : (y == 0) with _ | _
      · obtain ⟨A2, c2, rfl, hrd⟩ := own_read HW.out
        replace hrd := Lib.hid hrd
        go_wp2_with fail
        go_ret
        exact ⟨A2, c2, xs, rfl, by omega, hrd.out, S.out, G⟩
      · go_wp2_with fail
        (with_reducible refine (spec_Next g 2 _ (by (repeat (first | exact S.out | with_reducible refine Src.al ?_ _ | with_reducible refine Src.dr ?_ _ | with_reducible refine Src.drw ?_ | ((with_reducible refine Src.new ?_ ?_ _ _); rotate_left; focus omega)))) (by omega)).mono ?_)
        rintro e w5 ⟨x, hx, rfl, hs, hg⟩
        replace G : w.grownBy w5 (some g) := Gr.tr (by (repeat (first | exact G | with_reducible refine Gr.al ?_ _ | with_reducible refine Gr.dr ?_ _ | with_reducible refine Gr.drw ?_ | ((with_reducible refine Gr.new ?_ ?_ _ _); rotate_left; focus omega)))) hg
        obtain ⟨x, rfl⟩ : ∃ j : Nat, x = (j : Int) := ⟨Int.toNat x, by have := hx.1; omega⟩
        have hx2 : x ≤ 1 := by have := hx.2; omega
        clear S hx
        have S := Lib.hid hs
        clear hs hg
        obtain rfl | rfl : x = 0 ∨ x = 1 := by omega
        · have hmk : ∀ W, (Instr.makeSlice 24 (.int .i64 60) (.int .i64 60)).run Try.prog W = .ok (.slice (some ⟨W.heap.size, 0, none⟩) 60 60) (W.alloc (.cells (madeCells #[Value.int .i64 0] 60) 2)) := fun W => run_make_row' (P := Try.prog) 24 2 (.int .i64 0) 8 Try.underlying24 Try.infoN rfl .i64 .i64 60 (by omega) (by omega) W
          go_wp2_with fail
          go_ret
          exact ⟨_, _, List.replicate 60 0, rfl, by simp, Rd.of_cells (fun i => by rw [cell_new, zeros_iv]) (by simp), S.out.al _, Gr.al G _⟩
        · have hmk : ∀ W, (Instr.makeSlice 24 (.int .i64 61) (.int .i64 61)).run Try.prog W = .ok (.slice (some ⟨W.heap.size, 0, none⟩) 61 61) (W.alloc (.cells (madeCells #[Value.int .i64 0] 61) 2)) := fun W => run_make_row' (P := Try.prog) 24 2 (.int .i64 0) 8 Try.underlying24 Try.infoN rfl .i64 .i64 61 (by omega) (by omega) W
          go_wp2_with fail
          go_ret
          exact ⟨_, _, List.replicate 61 0, rfl, by simp, Rd.of_cells (fun i => by rw [cell_new, zeros_iv]) (by simp), S.out.al _, Gr.al G _⟩
    · obtain ⟨m, rfl⟩ : ∃ m, n = m + 1 := ⟨n - 1, by omega⟩
      have q1 : decide ((0 : Int) < ((m + 1 : Nat) : Int)) = true := decide_eq_true (by omega)
      go_wp2_with fail
      (with_reducible refine (spec_Next g 200 _ (by (repeat (first | exact S.out | with_reducible refine Src.al ?_ _ | with_reducible refine Src.dr ?_ _ | with_reducible refine Src.drw ?_ | ((with_reducible refine Src.new ?_ ?_ _ _); rotate_left; focus omega)))) (by omega)).mono ?_)
      rintro e w2 ⟨y1, _, rfl, hs, hg⟩
      replace HW := Lib.hid (own_gr HW.out hg hgw)
      replace G : w.grownBy w2 (some g) := Gr.tr (by (repeat (first | exact G | with_reducible refine Gr.al ?_ _ | with_reducible refine Gr.dr ?_ _ | with_reducible refine Gr.drw ?_ | ((with_reducible refine Gr.new ?_ ?_ _ _); rotate_left; focus omega)))) hg
      clear S
      have S := Lib.hid hs
      replace zG := G.size
      clear hs hg
      go_wp2_with fail
      (with_reducible refine (spec_DrawValue g _ (by (repeat (first | exact S.out | with_reducible refine Src.al ?_ _ | with_reducible refine Src.dr ?_ _ | with_reducible refine Src.drw ?_ | ((with_reducible refine Src.new ?_ ?_ _ _); rotate_left; focus omega))))).mono ?_)
      rintro e w3 ⟨y2, _, rfl, hs, hg⟩
      replace HW := Lib.hid (own_gr HW.out hg hgw)
      replace G : w.grownBy w3 (some g) := Gr.tr (by (repeat (first | exact G | with_reducible refine Gr.al ?_ _ | with_reducible refine Gr.dr ?_ _ | with_reducible refine Gr.drw ?_ | ((with_reducible refine Gr.new ?_ ?_ _ _); rotate_left; focus omega)))) hg
      clear S
      have S := Lib.hid hs
      replace zG := G.size
      clear hs hg
      go_wp2_with fail
      (refine (spec_PickN g _ 2 _ [_, _] _ (by (repeat (first | exact S.out | with_reducible refine Src.al ?_ _ | with_reducible refine Src.dr ?_ _ | with_reducible refine Src.drw ?_ | ((with_reducible refine Src.new ?_ ?_ _ _); rotate_left; focus omega)))) rfl (by decide) (cell_new _ _ _) (by first | omega | (simp; omega))).mono ?_)
      rintro e w4 ⟨y3, _, rfl, hs, hg⟩
      replace HW := Lib.hid (own_gr (HW.out.alloc _) hg hgw)
      replace G : w.grownBy w4 (some g) := Gr.tr (by (repeat (first | exact G | with_reducible refine Gr.al ?_ _ | with_reducible refine Gr.dr ?_ _ | with_reducible refine Gr.drw ?_ | ((with_reducible refine Gr.new ?_ ?_ _ _); rotate_left; focus omega)))) hg
      clear S
      have S := Lib.hid hs
      replace zG := G.size
      clear hs hg
      have hl := own_len HW.out
      go_wp2_with (at_builtin; (refine wpList_append_lies _ rfl _ _ _ rfl w.heap.size 2 i0 _ 1 8 Try.underlying24 hi0 hz0 hz1 hz2 rfl (by omega) val xs.length (iv xs) rfl (HW.out.alloc _) ⟨w4.heap.size, 0, none⟩ 1 1 [.int .i64 y3] rfl rfl (World.news_of_block (heap_alloc_new w4 _)) (by simp [Value.oneCell']) (by omega) (by unfold maxLen; omega) (by omega) (by simp; omega) (w4.heap.size + 1) (by simp) ?_; intro g' cap' w5 hown3 hgrow hat hlt'))
      have HW3 := Lib.hid hown3
      clear hown3
      go_roundw
      case rel => exact ⟨m, _, xs ++ [y3], by first | rfl | go_num, rfl, by simp; omega, by rw [List.length_append, iv_snoc]; exact HW3.out, Src.app (S.out.al _) hgrow (fun j hj => Nat.lt_of_lt_of_le hgw (own_base HW.out j hj)), Gr.app (Gr.al G _) hgrow (fun j hj => own_base HW.out j hj)⟩
      case measure => simp [intOf]
def IntsD (v : World) (e : Ending) (w' : World) : Prop := ∃ (A : Option Addr) (c : Nat) (xs : List Int), e = .returned (.slice A xs.length c) ∧ xs.length ≤ 61 ∧ Rd w' w'.heap.size A (iv xs) ∧ Below v.heap.size v w'
set_option maxHeartbeats 1000000 in
theorem spec_DrawListText (A : Option Addr) (cap : Nat) (us : List Int) (v : World) (hu : Code us) (hr : Rd v v.heap.size A (bv us)) : Calls Try.prog 16 #[.slice A us.length cap] v (IntsD v) := by
  have HU := Lib.hid hu
  have HR := Lib.hid hr
  clear hu hr
  have bb := Below.refl v.heap.size v
  have zb := bb.size
  go_enter Try.func16, Try.ntmps16
  go_wp2_with fail
  (with_reducible refine (spec_From _ _ us _ HU.out (HR.out)).mono ?_)
  rintro e w ⟨rfl, hs, hb⟩
  have bb : Below v.heap.size v w := hb
  have zv : v.heap.size ≤ v.heap.size := Nat.le_refl _
  obtain ⟨g, hgg⟩ : ∃ g, v.heap.size = g := ⟨_, rfl⟩
  rw [hgg] at hs
  have hgw := hs.lt
  have S := Lib.hid hs
  have G := Gr.refl w g
  have zG := G.size
  have hgv : v.heap.size ≤ g := Nat.le_of_eq hgg
  rw [hgg]
  clear hb hs hgg
  go_wp2_with fail
  (with_reducible refine (spec_DrawList g _ (by (repeat (first | exact S.out | with_reducible refine Src.al ?_ _ | with_reducible refine Src.dr ?_ _ | with_reducible refine Src.drw ?_ | ((with_reducible refine Src.new ?_ ?_ _ _); rotate_left; focus omega))))).mono ?_)
  rintro e w1 ⟨A2, c2, xs, rfl, hl, hrd, hs, hg⟩
  replace G : w.grownBy w1 (some g) := Gr.tr (by (repeat (first | exact G | with_reducible refine Gr.al ?_ _ | with_reducible refine Gr.dr ?_ _ | with_reducible refine Gr.drw ?_ | ((with_reducible refine Gr.new ?_ ?_ _ _); rotate_left; focus omega)))) hg
  replace bb := Gr.below bb G (by omega) (by omega)
  have HRD := Lib.hid hrd
  clear hrd S hs hg
  go_wp2_with fail
  go_ret
  exact ⟨A2, c2, xs, rfl, hl, HRD.out, bb⟩
set_option maxHeartbeats 1000000 in
theorem spec_DrawSortNumbers (A : Option Addr) (cap : Nat) (us : List Int) (v : World) (hu : Code us) (hr : Rd v v.heap.size A (bv us)) : Calls Try.prog 51 #[.slice A us.length cap] v (IntsD v) := by
  have HU := Lib.hid hu
  have HR := Lib.hid hr
  clear hu hr
  have bb := Below.refl v.heap.size v
  have zb := bb.size
  go_enter Try.func51, Try.ntmps51
  go_wp2_with fail
  (with_reducible refine (spec_From _ _ us _ HU.out (HR.out)).mono ?_)
  rintro e w ⟨rfl, hs, hb⟩
  have bb : Below v.heap.size v w := hb
  have zv : v.heap.size ≤ v.heap.size := Nat.le_refl _
  obtain ⟨g, hgg⟩ : ∃ g, v.heap.size = g := ⟨_, rfl⟩
  rw [hgg] at hs
  have hgw := hs.lt
  have S := Lib.hid hs
  have G := Gr.refl w g
  have zG := G.size
  have hgv : v.heap.size ≤ g := Nat.le_of_eq hgg
  rw [hgg]
  clear hb hs hgg
  go_wp2_with fail
  (with_reducible refine (spec_DrawList g _ (by (repeat (first | exact S.out | with_reducible refine Src.al ?_ _ | with_reducible refine Src.dr ?_ _ | with_reducible refine Src.drw ?_ | ((with_reducible refine Src.new ?_ ?_ _ _); rotate_left; focus omega))))).mono ?_)
  rintro e w1 ⟨A2, c2, xs, rfl, hl, hrd, hs, hg⟩
  replace G : w.grownBy w1 (some g) := Gr.tr (by (repeat (first | exact G | with_reducible refine Gr.al ?_ _ | with_reducible refine Gr.dr ?_ _ | with_reducible refine Gr.drw ?_ | ((with_reducible refine Gr.new ?_ ?_ _ _); rotate_left; focus omega)))) hg
  replace bb := Gr.below bb G (by omega) (by omega)
  have HRD := Lib.hid hrd
  clear hrd S hs hg
  go_wp2_with fail
  go_ret
  exact ⟨A2, c2, xs, rfl, hl, HRD.out, bb⟩
set_option maxRecDepth 100000 in
set_option maxHeartbeats 4000000 in
theorem spec_DrawReadList (A : Option Addr) (cap : Nat) (us : List Int) (v : World) (hu : Code us) (hr : Rd v v.heap.size A (bv us)) : Calls Try.prog 19 #[.slice A us.length cap] v (StrD 2000 v) := by
  obtain ⟨i0, hi0, hz0, hz1, hz2⟩ := info_parts Try.infoN
  have HU := Lib.hid hu
  have HR := Lib.hid hr
  clear hu hr
  have bb := Below.refl v.heap.size v
  have zb := bb.size
  go_enter Try.func19, Try.ntmps19
  go_wp2_with fail
  (with_reducible refine (spec_From _ _ us _ HU.out (HR.out)).mono ?_)
  rintro e w ⟨rfl, hs, hb⟩
  have bb : Below v.heap.size v w := hb
  have zv : v.heap.size ≤ v.heap.size := Nat.le_refl _
  obtain ⟨g, hgg⟩ : ∃ g, v.heap.size = g := ⟨_, rfl⟩
  rw [hgg] at hs
  have hgw := hs.lt
  have S := Lib.hid hs
  have G := Gr.refl w g
  have zG := G.size
  have hgv : v.heap.size ≤ g := Nat.le_of_eq hgg
  rw [hgg]
  clear hb hs hgg
  go_upto_region 3 with fail
  go_wp2_with fail
  (with_reducible refine (spec_Next g 6 _ (by (repeat (first | exact S.out | with_reducible refine Src.al ?_ _ | with_reducible refine Src.dr ?_ _ | with_reducible refine Src.drw ?_ | ((with_reducible refine Src.new ?_ ?_ _ _); rotate_left; focus omega)))) (by omega)).mono ?_)
  rintro e w1 ⟨x, hx, rfl, hs, hg⟩
  have hown := own_gr (own_none w _) hg hgw
  replace G : w.grownBy w1 (some g) := Gr.tr (by (repeat (first | exact G | with_reducible refine Gr.al ?_ _ | with_reducible refine Gr.dr ?_ _ | with_reducible refine Gr.drw ?_ | ((with_reducible refine Gr.new ?_ ?_ _ _); rotate_left; focus omega)))) hg
  obtain ⟨x, rfl⟩ : ∃ j : Nat, x = (j : Int) := ⟨Int.toNat x, by have := hx.1; omega⟩
  have hx2 : x ≤ 5 := by have := hx.2; omega
  clear hx hg
  go_wp2_with fail
  go_loopw [5, 4] (fun s5 s4 wr => ∃ (n : Nat) (val : Value) (xs : List Int), s5 = .int .i64 n ∧ val = s4 ∧ xs.length + n ≤ 5 ∧ allV xs = true ∧ wr.ownsRow w.heap.size 2 1 val xs.length (iv xs) ∧ Src wr g ∧ w.grownBy wr (some g)) (fun s5 _ _ => (intOf s5).toNat)
  case atStart => exact ⟨x, _, [], rfl, rfl, by simpa using hx2, rfl, hown, hs, G⟩
  case round =>
    clear S G hown hs hx2
    obtain ⟨n, val, xs, rfl, rfl, hn, hav, hown, hs, hg⟩ := hrel
    have S := Lib.hid hs
    have G := hg
    have HW := Lib.hid hown
    have HV := Lib.hid hav
    have zG := G.size
    clear hs hg hown hav
    rcases Nat.eq_zero_or_pos n with h0 | h0
    · subst h0
      obtain ⟨A2, c2, rfl, hrd⟩ := own_read HW.out
      replace hrd := Lib.hid hrd
      go_wp2_with fail
      (with_reducible refine (spec_Text A2 c2 xs _ (by omega) HV.out hrd.out).mono ?_)
      rintro e w2 ⟨rfl, hb1⟩
      have ht : (txF xs).size ≤ 1500 := by
        unfold txF
        split
        · decide
        · have := joinB_size (b := comma) (by decide) (nts_size HV.out) xs.length
          omega
      generalize txF xs = t at *
      replace S := Lib.hid (S.out.bw hb1)
      replace G : w.grownBy w2 (some g) := Gr.bw G hb1
      replace zG := G.size
      clear hb1
      go_wp2_with fail
      (with_reducible refine (spec_Next g 3 _ (by (repeat (first | exact S.out | with_reducible refine Src.al ?_ _ | with_reducible refine Src.dr ?_ _ | with_reducible refine Src.drw ?_ | ((with_reducible refine Src.new ?_ ?_ _ _); rotate_left; focus omega)))) (by omega)).mono ?_)
      rintro e w5 ⟨x5, hx5, rfl, hs, hg⟩
      replace G : w.grownBy w5 (some g) := Gr.tr (by (repeat (first | exact G | with_reducible refine Gr.al ?_ _ | with_reducible refine Gr.dr ?_ _ | with_reducible refine Gr.drw ?_ | ((with_reducible refine Gr.new ?_ ?_ _ _); rotate_left; focus omega)))) hg
      clear S
      have S := Lib.hid hs
      have zG := G.size
      clear hs hg
      clear hx5
      rcases e0 : (x5 == 0) with _ | _
      · replace bb := Gr.below bb G (by omega) (by omega)
        go_wp2_with fail
        go_ret
        exact ⟨_, by omega, rfl, bb⟩
      · go_wp2_with fail
        (with_reducible refine (spec_Damage g t _ (by (repeat (first | exact S.out | with_reducible refine Src.al ?_ _ | with_reducible refine Src.dr ?_ _ | with_reducible refine Src.drw ?_ | ((with_reducible refine Src.new ?_ ?_ _ _); rotate_left; focus omega)))) (by omega)).mono ?_)
        rintro e w6 ⟨t2, ht2, rfl, hs, hg⟩
        replace G : w.grownBy w6 (some g) := Gr.tr (by (repeat (first | exact G | with_reducible refine Gr.al ?_ _ | with_reducible refine Gr.dr ?_ _ | with_reducible refine Gr.drw ?_ | ((with_reducible refine Gr.new ?_ ?_ _ _); rotate_left; focus omega)))) hg
        replace bb := Gr.below bb G (by omega) (by omega)
        go_wp2_with fail
        go_ret
        exact ⟨_, by omega, rfl, bb⟩
    · obtain ⟨m, rfl⟩ : ∃ m, n = m + 1 := ⟨n - 1, by omega⟩
      have q1 : decide ((0 : Int) < ((m + 1 : Nat) : Int)) = true := decide_eq_true (by omega)
      go_wp2_with fail
      (with_reducible refine (spec_Next g 200 _ (by (repeat (first | exact S.out | with_reducible refine Src.al ?_ _ | with_reducible refine Src.dr ?_ _ | with_reducible refine Src.drw ?_ | ((with_reducible refine Src.new ?_ ?_ _ _); rotate_left; focus omega)))) (by omega)).mono ?_)
      rintro e w4 ⟨y, hy, rfl, hs, hg⟩
      have hy1 : 0 ≤ y := hy.1
      have hy2 : y ≤ 200 := by have := hy.2; omega
      replace HW := Lib.hid (own_gr HW.out hg hgw)
      replace G : w.grownBy w4 (some g) := Gr.tr (by (repeat (first | exact G | with_reducible refine Gr.al ?_ _ | with_reducible refine Gr.dr ?_ _ | with_reducible refine Gr.drw ?_ | ((with_reducible refine Gr.new ?_ ?_ _ _); rotate_left; focus omega)))) hg
      clear S hy
      have S := Lib.hid hs
      replace zG := G.size
      clear hs hg
      have hl := own_len HW.out
      have HX := Lib.hid (allV_snoc (x := y - 100) HV.out (inB_mk (by omega)))
      go_wp2_with (at_builtin; (refine wpList_append_lies _ rfl _ _ _ rfl w.heap.size 2 i0 _ 1 8 Try.underlying24 hi0 hz0 hz1 hz2 rfl (by omega) val xs.length (iv xs) rfl (HW.out.alloc _) ⟨w4.heap.size, 0, none⟩ 1 1 [.int .i64 (y - 100)] rfl rfl (World.news_of_block (heap_alloc_new w4 _)) (by simp [Value.oneCell']) (by omega) (by unfold maxLen; omega) (by omega) (by simp; omega) (w4.heap.size + 1) (by simp) ?_; intro g' cap' w5 hown3 hgrow hat hlt'))
      have HW3 := Lib.hid hown3
      clear hown3
      go_roundw
      case rel => exact ⟨m, _, xs ++ [y - 100], by first | rfl | go_num, rfl, by simp; omega, HX.out, by rw [List.length_append, iv_snoc]; exact HW3.out, Src.app (S.out.al _) hgrow (fun j hj => Nat.lt_of_lt_of_le hgw (own_base HW.out j hj)), Gr.app (Gr.al G _) hgrow (fun j hj => own_base HW.out j hj)⟩
      case measure => simp [intOf]

end Go.Proofs.Ytpejbmfapdocaaa
