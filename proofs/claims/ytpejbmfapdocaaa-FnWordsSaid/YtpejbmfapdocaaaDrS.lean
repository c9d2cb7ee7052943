/- Words drawn. Conditions: those that each theorem names. -/
import Derived.Test.YtpejbmfapdocaaaDrG
import Derived.Test.YtpejbmfapdocaaaWt
namespace Go.Proofs.Ytpejbmfapdocaaa
open Go.RowKit

theorem sAt_snoc {ss : List ByteArray} {t : ByteArray} {n : Nat} (h : ∀ k, (sAt ss k).size ≤ n) (ht : t.size ≤ n) : ∀ k, (sAt (ss ++ [t]) k).size ≤ n := fun k => by
  simp only [sAt, List.getD_eq_getElem?_getD] at h ⊢
  rcases Nat.lt_or_ge k ss.length with h1 | h1
  · rw [List.getElem?_append_left h1]; exact h k
  · rw [List.getElem?_append_right h1]
    rcases Nat.eq_zero_or_pos (k - ss.length) with h2 | h2
    · rw [h2]; exact ht
    · rw [List.getElem?_eq_none (by simp; omega)]; simp
def slLen : Value → Nat
  | .slice _ n _ => n
  | _ => 0
/-- Words of the call's own; the source alone was written. -/
def WordsP (g : Nat) (w : World) (e : Ending) (w' : World) : Prop := ∃ (val : Value) (ss : List ByteArray), e = .returned val ∧ ss.length ≤ 61 ∧ (∀ k, (sAt ss k).size ≤ 20) ∧ w'.ownsRow w.heap.size 9 1 val ss.length (sv ss) ∧ Src w' g ∧ w.grownBy w' (some g)
set_option maxRecDepth 100000 in
set_option maxHeartbeats 4000000 in
theorem spec_DrawWords (g : Nat) (w : World) (hs : Src w g) : Calls Try.prog 146 #[.pointer (some ⟨g, 0, none⟩)] w (WordsP g w) := by
  obtain ⟨i0, hi0, hz0, hz1, hz2⟩ := info_parts Try.infoT
  have hgw := hs.lt
  have S := Lib.hid hs
  have G := Gr.refl w g
  have zG := G.size
  clear hs
  go_enter Try.func146, Try.ntmps146
  go_upto_region 2 with fail
  go_wp2_with fail
  (with_reducible refine (spec_Next g 6 _ (by (repeat (first | exact S.out | with_reducible refine Src.al ?_ _ | with_reducible refine Src.dr ?_ _ | with_reducible refine Src.drw ?_ | ((with_reducible refine Src.new ?_ ?_ _ _); rotate_left; focus omega)))) (by omega)).mono ?_)
  rintro e w1 ⟨x, hx, rfl, hs, hg⟩
  have hown := own_gr (own_none w _) hg hgw
  replace G : w.grownBy w1 (some g) := Gr.tr (by (repeat (first | exact G | with_reducible refine Gr.al ?_ _ | with_reducible refine Gr.dr ?_ _ | with_reducible refine Gr.drw ?_ | ((with_reducible refine Gr.new ?_ ?_ _ _); rotate_left; focus omega)))) hg
  obtain ⟨x, rfl⟩ : ∃ j : Nat, x = (j : Int) := ⟨Int.toNat x, by have := hx.1; omega⟩
  have hx2 : x ≤ 5 := by have := hx.2; omega
  clear hx hg
  go_wp2_with fail
  go_loopw [4, 3] (fun s4 s3 wr => ∃ (n : Nat) (val : Value) (ss : List ByteArray), s4 = .int .i64 n ∧ val = s3 ∧ ss.length + n ≤ 5 ∧ (∀ k, (sAt ss k).size ≤ 20) ∧ wr.ownsRow w.heap.size 9 1 val ss.length (sv ss) ∧ Src wr g ∧ w.grownBy wr (some g)) (fun s4 _ _ => (intOf s4).toNat)
  case atStart => exact ⟨x, _, [], rfl, rfl, by simpa using hx2, fun k => by simp [sAt], hown, hs, G⟩
  case round =>
    clear S G hown hs hx2
    obtain ⟨n, val, ss, rfl, rfl, hn, hsz, hown, hs, hg⟩ := hrel
    have S := Lib.hid hs
    have G := hg
    have HZ := Lib.hid hsz
    have HW := Lib.hid hown
    have zG := G.size
    clear hs hg hsz hown
    rcases Nat.eq_zero_or_pos n with h0 | h0
    · subst h0
      go_wp2_with fail
      (with_reducible refine (spec_Next g 24 _ (by (repeat (first | exact S.out | with_reducible refine Src.al ?_ _ | with_reducible refine Src.dr ?_ _ | with_reducible refine Src.drw ?_ | ((with_reducible refine Src.new ?_ ?_ _ _); rotate_left; focus omega)))) (by omega)).mono ?_)
      rintro e w4 ⟨y, _, rfl, hs, hg⟩
      replace HW := Lib.hid (own_gr HW.out hg hgw)
      replace G : w.grownBy w4 (some g) := Gr.tr (by (repeat (first | exact G | with_reducible refine Gr.al ?_ _ | with_reducible refine Gr.dr ?_ _ | with_reducible refine Gr.drw ?_ | ((with_reducible refine Gr.new ?_ ?_ _ _); rotate_left; focus omega)))) hg
      clear S
      have S := Lib.hid hs
      clear hs hg
      rcases e0 : (y == 0) with _ | _
      · go_wp2_with fail
        go_ret
        exact ⟨_, ss, rfl, by omega, HZ.out, HW.out, S.out, G⟩
      · go_wp2_with fail
        go_loopw [3] (fun s3 wr => ∃ (val : Value) (ss : List ByteArray), val = s3 ∧ ss.length ≤ 61 ∧ (∀ k, (sAt ss k).size ≤ 20) ∧ wr.ownsRow w.heap.size 9 1 val ss.length (sv ss) ∧ Src wr g ∧ w.grownBy wr (some g)) (fun s3 _ => 61 - slLen s3)
        case atStart => exact ⟨_, ss, rfl, by omega, HZ.out, HW.out, S.out, G⟩
        case round =>
          clear S G HZ HW hn zG
          obtain ⟨val, ss, rfl, hn, hsz, hown, hs, hg⟩ := hrel
          have S := Lib.hid hs
          have G := hg
          have HZ := Lib.hid hsz
          obtain ⟨A2, cc, rfl, _⟩ := own_read hown
          have HW := Lib.hid hown
          have zG := G.size
          clear hs hg hsz hown
          go_wp2_with fail
          (with_reducible refine (spec_Next g 2 _ (by (repeat (first | exact S.out | with_reducible refine Src.al ?_ _ | with_reducible refine Src.dr ?_ _ | with_reducible refine Src.drw ?_ | ((with_reducible refine Src.new ?_ ?_ _ _); rotate_left; focus omega)))) (by omega)).mono ?_)
          rintro e w5 ⟨x, hx, rfl, hs, hg⟩
          replace HW := Lib.hid (own_gr HW.out hg hgw)
          replace G : w.grownBy w5 (some g) := Gr.tr (by (repeat (first | exact G | with_reducible refine Gr.al ?_ _ | with_reducible refine Gr.dr ?_ _ | with_reducible refine Gr.drw ?_ | ((with_reducible refine Gr.new ?_ ?_ _ _); rotate_left; focus omega)))) hg
          obtain ⟨x, rfl⟩ : ∃ j : Nat, x = (j : Int) := ⟨Int.toNat x, by have := hx.1; omega⟩
          have hx2 : x ≤ 1 := by have := hx.2; omega
          clear S hx
          have S := Lib.hid hs
          replace zG := G.size
          clear hs hg
          by_cases hlt : ss.length < 60 + x
          · have g1 : decide ((ss.length : Int) < 60 + (x : Int)) = true := decide_eq_true (by omega)
            go_wp2_with (at_builtin; (refine wpList_append_lies _ rfl _ _ _ rfl w.heap.size 9 i0 _ 1 16 Try.underlying80 hi0 hz0 hz1 hz2 rfl (by omega) (.slice A2 ss.length cc) ss.length (sv ss) rfl (HW.out.alloc _) ⟨w5.heap.size, 0, none⟩ 1 1 [.string { data := #[97, 100, 97] }] rfl rfl (World.news_of_block (heap_alloc_new w5 _)) (by simp [Value.oneCell']) (by omega) (by unfold maxLen; omega) (by omega) (by simp; omega) (w5.heap.size + 1) (by simp) ?_; intro g' cap' w3 hown3 hgrow hat hlt'))
            have HW3 := Lib.hid hown3
            clear hown3
            go_roundw
            case rel => exact ⟨_, ss ++ [{ data := #[97, 100, 97] }], rfl, by simp; omega, sAt_snoc HZ.out (by decide), by rw [List.length_append, sv_snoc]; exact HW3.out, Src.app (S.out.al _) hgrow (fun j hj => Nat.lt_of_lt_of_le hgw (own_base HW.out j hj)), Gr.app (Gr.al G _) hgrow (fun j hj => own_base HW.out j hj)⟩
            case measure => simp [slLen]; omega
          · have g1 : decide ((ss.length : Int) < 60 + (x : Int)) = false := decide_eq_false (by omega)
            go_wp2_with fail
            go_ret
            exact ⟨_, ss, rfl, by omega, HZ.out, HW.out, S.out, G⟩
    · obtain ⟨m, rfl⟩ : ∃ m, n = m + 1 := ⟨n - 1, by omega⟩
      have q1 : decide ((0 : Int) < ((m + 1 : Nat) : Int)) = true := decide_eq_true (by omega)
      go_wp2_with fail
      (with_reducible refine (spec_l01DrawWord g _ (by (repeat (first | exact S.out | with_reducible refine Src.al ?_ _ | with_reducible refine Src.dr ?_ _ | with_reducible refine Src.drw ?_ | ((with_reducible refine Src.new ?_ ?_ _ _); rotate_left; focus omega))))).mono ?_)
      rintro e w2 ⟨t, ht, rfl, hs, hg⟩
      replace HW := Lib.hid (own_gr HW.out hg hgw)
      replace G : w.grownBy w2 (some g) := Gr.tr (by (repeat (first | exact G | with_reducible refine Gr.al ?_ _ | with_reducible refine Gr.dr ?_ _ | with_reducible refine Gr.drw ?_ | ((with_reducible refine Gr.new ?_ ?_ _ _); rotate_left; focus omega)))) hg
      clear S
      have S := Lib.hid hs
      replace zG := G.size
      clear hs hg
      have hl := own_len HW.out
      go_wp2_with (at_builtin; (refine wpList_append_lies _ rfl _ _ _ rfl w.heap.size 9 i0 _ 1 16 Try.underlying80 hi0 hz0 hz1 hz2 rfl (by omega) val ss.length (sv ss) rfl (HW.out.alloc _) ⟨w2.heap.size, 0, none⟩ 1 1 [.string t] rfl rfl (World.news_of_block (heap_alloc_new w2 _)) (by simp [Value.oneCell']) (by omega) (by unfold maxLen; omega) (by omega) (by simp; omega) (w2.heap.size + 1) (by simp) ?_; intro g' cap' w3 hown3 hgrow hat hlt'))
      have HW3 := Lib.hid hown3
      clear hown3
      go_roundw
      case rel => exact ⟨m, _, ss ++ [t], by first | rfl | go_num, rfl, by simp; omega, sAt_snoc HZ.out ht, by rw [List.length_append, sv_snoc]; exact HW3.out, Src.app (S.out.al _) hgrow (fun j hj => Nat.lt_of_lt_of_le hgw (own_base HW.out j hj)), Gr.app (Gr.al G _) hgrow (fun j hj => own_base HW.out j hj)⟩
      case measure => simp [intOf]
def WordsD (v : World) (e : Ending) (w' : World) : Prop := ∃ (A : Option Addr) (c : Nat) (ss : List ByteArray), e = .returned (.slice A ss.length c) ∧ ss.length ≤ 61 ∧ (∀ k, (sAt ss k).size ≤ 20) ∧ Rd w' w'.heap.size A (sv ss) ∧ Below v.heap.size v w'
set_option maxHeartbeats 1000000 in
theorem spec_DrawWordsText (A : Option Addr) (cap : Nat) (us : List Int) (v : World) (hu : Code us) (hr : Rd v v.heap.size A (bv us)) : Calls Try.prog 86 #[.slice A us.length cap] v (WordsD v) := by
  have HU := Lib.hid hu
  have HR := Lib.hid hr
  clear hu hr
  have bb := Below.refl v.heap.size v
  have zb := bb.size
  go_enter Try.func86, Try.ntmps86
  go_wp2_with fail
  (with_reducible refine (spec_From _ _ us _ HU.out (HR.out)).mono ?_)
  rintro e w ⟨rfl, hs, hb⟩
  have bb : Below v.heap.size v w := hb
  have zv : v.heap.size ≤ v.heap.size := Nat.le_refl _
  obtain ⟨g, hgg⟩ : ∃ g, v.heap.size = g := ⟨_, rfl⟩
  rw [hgg] at hs
  have hgw := hs.lt
  have S := Lib.hid hs
  have G := Gr.refl w g
  have zG := G.size
  have hgv : v.heap.size ≤ g := Nat.le_of_eq hgg
  rw [hgg]
  clear hb hs hgg
  go_wp2_with fail
  (with_reducible refine (spec_DrawWords g _ (by (repeat (first | exact S.out | with_reducible refine Src.al ?_ _ | with_reducible refine Src.dr ?_ _ | with_reducible refine Src.drw ?_ | ((with_reducible refine Src.new ?_ ?_ _ _); rotate_left; focus omega))))).mono ?_)
  rintro e w1 ⟨val, ss, rfl, hl, hsz, hown, hs, hg⟩
  obtain ⟨A2, c2, rfl, hrd⟩ := own_read hown
  replace G : w.grownBy w1 (some g) := Gr.tr (by (repeat (first | exact G | with_reducible refine Gr.al ?_ _ | with_reducible refine Gr.dr ?_ _ | with_reducible refine Gr.drw ?_ | ((with_reducible refine Gr.new ?_ ?_ _ _); rotate_left; focus omega)))) hg
  replace bb := Gr.below bb G (by omega) (by omega)
  have HRD := Lib.hid hrd
  have HSZ := Lib.hid hsz
  clear hown hrd hsz S hs hg
  go_wp2_with fail
  go_ret
  exact ⟨A2, c2, ss, rfl, hl, HSZ.out, HRD.out, bb⟩
set_option maxRecDepth 100000 in
set_option maxHeartbeats 1000000 in
theorem spec_DrawReadWords (A : Option Addr) (cap : Nat) (us : List Int) (v : World) (hu : Code us) (hr : Rd v v.heap.size A (bv us)) : Calls Try.prog 89 #[.slice A us.length cap] v (StrD 2000 v) := by
  have HU := Lib.hid hu
  have HR := Lib.hid hr
  clear hu hr
  have bb := Below.refl v.heap.size v
  have zb := bb.size
  go_enter Try.func89, Try.ntmps89
  go_wp2_with fail
  (with_reducible refine (spec_From _ _ us _ HU.out (HR.out)).mono ?_)
  rintro e w ⟨rfl, hs, hb⟩
  have bb : Below v.heap.size v w := hb
  have zv : v.heap.size ≤ v.heap.size := Nat.le_refl _
  obtain ⟨g, hgg⟩ : ∃ g, v.heap.size = g := ⟨_, rfl⟩
  rw [hgg] at hs
  have hgw := hs.lt
  have S := Lib.hid hs
  have G := Gr.refl w g
  have zG := G.size
  have hgv : v.heap.size ≤ g := Nat.le_of_eq hgg
  rw [hgg]
  clear hb hs hgg
  go_wp2_with fail
  (with_reducible refine (spec_DrawWords g _ (by (repeat (first | exact S.out | with_reducible refine Src.al ?_ _ | with_reducible refine Src.dr ?_ _ | with_reducible refine Src.drw ?_ | ((with_reducible refine Src.new ?_ ?_ _ _); rotate_left; focus omega))))).mono ?_)
  rintro e w1 ⟨val, ss, rfl, hl, hsz, hown, hs, hg⟩
  obtain ⟨A2, c2, rfl, hrd⟩ := own_read hown
  replace G : w.grownBy w1 (some g) := Gr.tr (by (repeat (first | exact G | with_reducible refine Gr.al ?_ _ | with_reducible refine Gr.dr ?_ _ | with_reducible refine Gr.drw ?_ | ((with_reducible refine Gr.new ?_ ?_ _ _); rotate_left; focus omega)))) hg
  clear S
  have S := Lib.hid hs
  replace zG := G.size
  have HRD := Lib.hid hrd
  have HSZ := Lib.hid hsz
  clear hown hrd hsz hs hg
  go_wp2_with fail
  refine (spec_Words A2 c2 ss { data := #[44] } w1 (by decide) (by omega) HSZ.out HRD.out).mono ?_
  rintro e w2 ⟨rfl, rfl⟩
  have hj := joinB_size (b := { data := #[44] }) (by decide) HSZ.out ss.length
  generalize joinB ss { data := #[44] } ss.length = t at *
  go_wp2_with fail
  (with_reducible refine (spec_Next g 3 _ (by (repeat (first | exact S.out | with_reducible refine Src.al ?_ _ | with_reducible refine Src.dr ?_ _ | with_reducible refine Src.drw ?_ | ((with_reducible refine Src.new ?_ ?_ _ _); rotate_left; focus omega)))) (by omega)).mono ?_)
  rintro e w5 ⟨x5, hx5, rfl, hs, hg⟩
  replace G : w.grownBy w5 (some g) := Gr.tr (by (repeat (first | exact G | with_reducible refine Gr.al ?_ _ | with_reducible refine Gr.dr ?_ _ | with_reducible refine Gr.drw ?_ | ((with_reducible refine Gr.new ?_ ?_ _ _); rotate_left; focus omega)))) hg
  clear S
  have S := Lib.hid hs
  have zG := G.size
  clear hs hg
  clear hx5
  rcases e0 : (x5 == 0) with _ | _
  · replace bb := Gr.below bb G (by omega) (by omega)
    go_wp2_with fail
    go_ret
    exact ⟨_, by omega, rfl, bb⟩
  · go_wp2_with fail
    (with_reducible refine (spec_Damage g t _ (by (repeat (first | exact S.out | with_reducible refine Src.al ?_ _ | with_reducible refine Src.dr ?_ _ | with_reducible refine Src.drw ?_ | ((with_reducible refine Src.new ?_ ?_ _ _); rotate_left; focus omega)))) (by omega)).mono ?_)
    rintro e w6 ⟨t2, ht2, rfl, hs, hg⟩
    replace G : w.grownBy w6 (some g) := Gr.tr (by (repeat (first | exact G | with_reducible refine Gr.al ?_ _ | with_reducible refine Gr.dr ?_ _ | with_reducible refine Gr.drw ?_ | ((with_reducible refine Gr.new ?_ ?_ _ _); rotate_left; focus omega)))) hg
    replace bb := Gr.below bb G (by omega) (by omega)
    go_wp2_with fail
    go_ret
    exact ⟨_, by omega, rfl, bb⟩

end Go.Proofs.Ytpejbmfapdocaaa
