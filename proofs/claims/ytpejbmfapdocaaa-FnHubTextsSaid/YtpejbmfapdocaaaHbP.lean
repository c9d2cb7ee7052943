/- Hubs read by the reference. Condition: the text has at most 1048576 bytes. -/
import Derived.Test.YtpejbmfapdocaaaHbR
import Derived.Test.YtpejbmfapdocaaaMk
namespace Go.Proofs.Ytpejbmfapdocaaa
open Go.RowKit

/-- The first k measures. -/
noncomputable def mls (s : ByteArray) (k : Nat) : List Int := (List.range k).map fun j => (hm s (j + 1)).1
theorem mls_s (s : ByteArray) (k : Nat) : mls s (k + 1) = mls s k ++ [(hm s (k + 1)).1] := by simp [mls, List.range_succ]
theorem mls_len (s : ByteArray) (k : Nat) : (mls s k).length = k := by simp [mls]
theorem mls_4 (s : ByteArray) : mls s 4 = [(hm s 1).1, (hm s 2).1, (hm s 3).1, (hm s 4).1] := rfl
theorem held4 {wr w' : World} {g : Nat} {v0 v1 v2 v3 : Value} (hg : g < wr.heap.size) (k0 : wr.cell? ⟨g, 0, none⟩ = some v0) (k1 : wr.cell? ⟨g, 1, none⟩ = some v1) (k2 : wr.cell? ⟨g, 2, none⟩ = some v2) (k3 : wr.cell? ⟨g, 3, none⟩ = some v3) (hb : Below wr.heap.size wr w') :
    w'.cell? ⟨g, 0, none⟩ = some v0 ∧ w'.cell? ⟨g, 1, none⟩ = some v1 ∧ w'.cell? ⟨g, 2, none⟩ = some v2 ∧ w'.cell? ⟨g, 3, none⟩ = some v3 ∧ Below wr.heap.size wr w' :=
  ⟨(hb.cell (p := ⟨g, 0, none⟩) hg).trans k0, (hb.cell (p := ⟨g, 1, none⟩) hg).trans k1, (hb.cell (p := ⟨g, 2, none⟩) hg).trans k2, (hb.cell (p := ⟨g, 3, none⟩) hg).trans k3, hb⟩
set_option maxRecDepth 100000 in
set_option maxHeartbeats 8000000 in
theorem spec_ReadHub_n (s : ByteArray) (w : World) (hs : s.size ≤ 1048576) (h5 : (splitB s 47).length ≠ 5) :
    Calls Try.prog 28 #[.string s] w fun e w' => e = .returned (.tuple #[.agg #[.int .i64 0, .int .i64 0, .int .i64 0, .int .i64 0, .int .i64 0], .int .i64 6]) ∧ Below w.heap.size w w' := by
  have g5 : (((splitB s 47).length : Int) == 5) = false := beq_eq_false_iff_ne.2 (by omega)
  go_enter Try.func28, Try.ntmps28
  go_upto_region 1 with fail
  obtain ⟨c0, f0, zz, bb⟩ := kept1 (w := w) (A := #[Value.int .i64 0, Value.int .i64 0, Value.int .i64 0, Value.int .i64 0, Value.int .i64 0]) (ta := 33) (Below.refl _ _)
  generalize w.alloc (.cells #[Value.int .i64 0, Value.int .i64 0, Value.int .i64 0, Value.int .i64 0, Value.int .i64 0] 33) = X at *
  go_wp2_with fail
  (with_reducible refine (spec_Split s 47 _ hs (by omega)).mono ?_)
  rintro e w1 ⟨v1, rfl, hown, hb1⟩
  obtain ⟨A1, cc, rfl, hr1⟩ := own_read hown
  clear hown hr1
  replace c0 := cell_kept hb1 (by omega) c0
  replace f0 := frz_kept hb1 (by omega) f0
  replace bb := bb.trans (hb1.mono (by omega))
  clear hb1
  generalize splitB s 47 = ps at *
  go_wp2_with fail
  refine bodyPost_ret (v := .tuple #[.agg #[.int .i64 0, .int .i64 0, .int .i64 0, .int .i64 0, .int .i64 0], .int .i64 6]) (by simp (maxDischargeDepth := 8) [results, Try.results28, go_sem, c0]) rfl ⟨?_, ?_⟩
  · rfl
  · (repeat (first | with_reducible exact Below.refl _ _ | with_reducible assumption | ((with_reducible refine Bw.set ?_ ?_); rotate_left; focus omega) | ((with_reducible refine Bw.al ?_ ?_); rotate_left; focus (first | omega | (simp; done) | (simp; omega))) | with_reducible refine Below.drew ?_ | with_reducible refine Bw.dr ?_ _))
set_option maxRecDepth 100000 in
set_option maxHeartbeats 8000000 in
theorem spec_ReadHub_y (s : ByteArray) (w : World) (hs : s.size ≤ 1048576) (h5 : (splitB s 47).length = 5) :
    Calls Try.prog 28 #[.string s] w (HubEnd s w) := by
  obtain ⟨i0, hi0, hz0, hz1, hz2⟩ := info_parts Try.infoS
  have U1 := Lib.hid (hubOk_yes h5)
  have HZ := Lib.hid (fun k => splitB_small s 47 k)
  go_enter Try.func28, Try.ntmps28
  go_upto_region 1 with fail
  obtain ⟨c0, f0, zz, bb⟩ := kept1 (w := w) (A := #[Value.int .i64 0, Value.int .i64 0, Value.int .i64 0, Value.int .i64 0, Value.int .i64 0]) (ta := 33) (Below.refl _ _)
  generalize w.alloc (.cells #[Value.int .i64 0, Value.int .i64 0, Value.int .i64 0, Value.int .i64 0, Value.int .i64 0] 33) = X at *
  go_wp2_with fail
  (with_reducible refine (spec_Split s 47 _ hs (by omega)).mono ?_)
  rintro e w1 ⟨v1, rfl, hown, hb1⟩
  obtain ⟨A1, cc, rfl, hr1⟩ := own_read hown
  clear hown
  replace c0 := cell_kept hb1 (by omega) c0
  replace f0 := frz_kept hb1 (by omega) f0
  replace bb := bb.trans (hb1.mono (by omega))
  replace zz : w.heap.size + 1 ≤ w1.heap.size := by have := hb1.size; omega
  clear hb1
  have g5 : (((splitB s 47).length : Int) == 5) = true := by rw [h5]; rfl
  have hl5 : 5 ≤ (splitB s 47).length := by omega
  obtain ⟨ad, rfl, ha0⟩ := hr1.str (k := 0) (by omega)
  have ha0' : w1.cell? ad = some (.string (sAt (splitB s 47) 0)) := by simpa [Addr.add] using ha0
  have HR := Lib.hid hr1
  have HC := Lib.hid c0
  have HF := Lib.hid f0
  clear ha0 hr1 c0 f0
  obtain ⟨p0, hp0⟩ : ∃ p0, sAt (splitB s 47) 0 = p0 := ⟨_, rfl⟩
  obtain ⟨x0, o0, hx0⟩ : ∃ x0 o0, vlF p0 = (x0, o0) := ⟨_, _, rfl⟩
  have HX := Lib.hid hx0
  have HP0 := Lib.hid hp0
  have HZ0 := Lib.hid (show p0.size ≤ maxLen by have := HZ.out 0; rw [hp0] at this; unfold maxLen; omega)
  rw [hp0] at ha0'
  clear hp0 hx0
  obtain ⟨n5, hn5⟩ : ∃ n5, (splitB s 47).length = n5 := ⟨_, rfl⟩
  rw [hn5] at g5 hl5 ⊢
  have HN := Lib.hid hn5
  clear hn5 h5
  go_upto_region 5 with fail
  have hown0 : (w1.alloc (.cells #[] 2)).ownsRow w1.heap.size 2 1 (.slice (some ⟨w1.heap.size, 0, none⟩) 0 0) 0 [] := ⟨rfl, .inr ⟨w1.heap.size, 0, _, rfl, Nat.le_refl _, heap_alloc_new _ _, Nat.zero_le _, by unfold maxLen; omega, rfl, rfl⟩⟩
  have bn : Below w1.heap.size w1 (w1.alloc (.cells #[] 2)) := by (repeat (first | with_reducible exact Below.refl _ _ | with_reducible assumption | ((with_reducible refine Bw.set ?_ ?_); rotate_left; focus omega) | ((with_reducible refine Bw.al ?_ ?_); rotate_left; focus (first | omega | (simp; done) | (simp; omega))) | with_reducible refine Below.drew ?_ | with_reducible refine Bw.dr ?_ _))
  have hzl := World.block_lt_of_cell? w1 ad ha0'
  have ha1 : (w1.alloc (.cells #[] 2)).cell? ad = some (.string p0) := (World.cell?_alloc_lt w1 _ ad hzl).trans ha0'
  clear ha0' hzl
  go_wp2_with fail
  (with_reducible refine (spec_Value p0 _ HZ0.out).mono ?_)
  rintro e w2 ⟨rfl, hb2⟩
  rw [HX.out]
  have hown2 := own_below hown0 hb2
  replace bn := bn.trans (hb2.mono bn.size)
  clear hown0 hb2 ha1
  go_wp2_with fail
  go_loopw [8, 5, 7] (fun s8 s5 s7 wr => ∃ (k : Nat) (val : Value), k ≤ 4 ∧ s8 = .int .i64 ((k : Int) + 1) ∧ val = s5 ∧ s7 = .bool (o0 && hOk s k) ∧ wr.ownsRow w1.heap.size 2 1 val k (iv (mls s k)) ∧ Below w1.heap.size w1 wr) (fun s8 _ _ _ => 6 - (intOf s8).toNat)
  case atStart => exact ⟨0, _, by omega, rfl, rfl, by simp [hOk], hown2, bn⟩
  case round =>
    clear bn hown2
    obtain ⟨k, val, hk, rfl, rfl, rfl, hown, hb⟩ := hrel
    have HB := Lib.hid hb
    have HW := Lib.hid hown
    have hzr := hb.size
    clear hown
    by_cases hlt : k < 4
    · obtain ⟨ad', e', ha⟩ := (HR.out.keep hb).str (k := k + 1) (by rw [HN.out]; omega)
      cases e'
      obtain ⟨p, hp⟩ : ∃ p, sAt (splitB s 47) (k + 1) = p := ⟨_, rfl⟩
      have hpz : p.size ≤ 1048576 := by have := HZ.out (k + 1); rw [hp] at this; omega
      obtain ⟨m, fine, hmf⟩ : ∃ m fine, mdF p = (m, fine) := ⟨_, _, rfl⟩
      have HMK := Lib.hid (show hm s (k + 1) = (m, fine) by rw [hm, hp]; exact hmf)
      have HM := Lib.hid hmf
      rw [hp] at ha
      have ha' : wr.cell? ⟨ad.block, ad.off + (k + 1), none⟩ = some (.string p) := by simpa [Addr.add] using ha
      clear hp hmf hb ha
      obtain ⟨o, ho⟩ : ∃ o, (o0 && hOk s k) = o := ⟨_, rfl⟩
      rw [ho]
      have HST := Lib.hid (show (o0 && hOk s (k + 1)) = (o && fine) by rw [hOk_s, ← Bool.and_assoc, ho, HMK.out])
      have HLS := Lib.hid (show mls s (k + 1) = mls s k ++ [m] by rw [mls_s, HMK.out])
      clear ho
      have q2 : ((k : Int) + 1).toNat = k + 1 := by omega
      have q3 : (0 : Int) ≤ (k : Int) + 1 := by omega
      have q4 : (k : Int) + 1 < n5 := by omega
      go_wp2_with fail
      (with_reducible refine (spec_ReadMeasure_md p _ hpz).mono ?_)
      rintro e w4 ⟨rfl, hb4⟩
      rw [HM.out]
      have z4 := hb4.size
      have ho4 := own_below HW.out hb4
      replace HW := Lib.hid ho4
      replace HB := Lib.hid (HB.out.trans (hb4.mono (by omega)))
      clear hb4 ho4 ha'
      have hl := own_len HW.out
      rcases o with _ | _
      all_goals rcases fine with _ | _
      all_goals
        go_wp2_with (at_builtin; (refine wpList_append_lies _ rfl _ _ _ rfl w1.heap.size 2 i0 _ 1 8 Try.underlying24 hi0 hz0 hz1 hz2 rfl (by omega) val k (iv (mls s k)) rfl (HW.out.alloc _) ⟨w4.heap.size, 0, none⟩ 1 1 [.int .i64 m] rfl rfl (World.news_of_block (heap_alloc_new w4 _)) (by simp [Value.oneCell']) (by omega) (by unfold maxLen; omega) (by omega) (by simp; omega) (w4.heap.size + 1) (by simp) ?_; intro g' cap' w5 hown3 hgrow hat hlt'))
        have HW3 := Lib.hid hown3
        clear hown3
        go_roundw
        case rel => exact ⟨k + 1, _, by omega, by go_num, rfl, by rw [HST.out]; rfl, by rw [HLS.out, iv_snoc]; exact HW3.out, below_own (w1 := w4.alloc _) HW.out (HB.out.alloc (by omega) _) (by simp; omega) hgrow⟩
        case measure => simp [intOf]; omega
    · obtain rfl : k = 4 := by omega
      obtain ⟨A2, c2, rfl, hw, _, _⟩ := own_write HW.out
      obtain ⟨m1, hm1⟩ : ∃ m, (hm s 1).1 = m := ⟨_, rfl⟩
      obtain ⟨m2, hm2⟩ : ∃ m, (hm s 2).1 = m := ⟨_, rfl⟩
      obtain ⟨m3, hm3⟩ : ∃ m, (hm s 3).1 = m := ⟨_, rfl⟩
      obtain ⟨m4, hm4⟩ : ∃ m, (hm s 4).1 = m := ⟨_, rfl⟩
      have hL : iv (mls s 4) = [.int .i64 m1, .int .i64 m2, .int .i64 m3, .int .i64 m4] := by rw [mls_4, hm1, hm2, hm3, hm4]; rfl
      rw [hL] at hw
      obtain ⟨g, rfl, hg0, k0, _⟩ := hw 0 _ rfl
      obtain ⟨g', e', _, k1, _⟩ := hw 1 _ rfl
      cases e'
      obtain ⟨g', e', _, k2, _⟩ := hw 2 _ rfl
      cases e'
      obtain ⟨g', e', _, k3, _⟩ := hw 3 _ rfl
      cases e'
      have V1 := U1.out
      rw [HP0.out, HX.out, hm1, hm2, hm3, hm4] at V1
      simp only at V1
      have W1 := Lib.hid V1.symm
      have KK := Lib.hid (And.intro hm1 (And.intro hm2 (And.intro hm3 hm4)))
      have c0 := cell_kept hb (by omega) HC.out
      have f0 := frz_kept hb (by omega) HF.out
      replace bb : Below w.heap.size w wr := bb.trans (hb.mono (by omega))
      have zr0 : w.heap.size < wr.heap.size := by omega
      clear hm1 hm2 hm3 hm4 V1 hb HB hk hlt hw HW hL
      generalize (o0 && hOk s 4) = ok at *
      go_upto_region 12 with fail
      go_cut [11] (fun s11 wx => ∃ g' : Nat, s11 = .pointer (some ⟨g', 0, none⟩) ∧ (∀ i, wx.cell? ⟨g', i, none⟩ = #[Value.int .i64 x0, Value.int .i64 m1, Value.int .i64 m2, Value.int .i64 m3, Value.int .i64 m4][i]?) ∧ Below wr.heap.size wr wx)
      case first =>
        go_region_held3 (fun w' => w'.cell? ⟨g, 0, none⟩ = some (.int .i64 m1) ∧ w'.cell? ⟨g, 1, none⟩ = some (.int .i64 m2) ∧ w'.cell? ⟨g, 2, none⟩ = some (.int .i64 m3) ∧ w'.cell? ⟨g, 3, none⟩ = some (.int .i64 m4) ∧ Below wr.heap.size wr w')
          (exact held4 hg0 k0 k1 k2 k3 (by (repeat (first | with_reducible exact Below.refl _ _ | with_reducible assumption | ((with_reducible refine Bw.set ?_ ?_); rotate_left; focus omega) | ((with_reducible refine Bw.al ?_ ?_); rotate_left; focus (first | omega | (simp; done) | (simp; omega))) | with_reducible refine Below.drew ?_ | with_reducible refine Bw.dr ?_ _)))) (fail)
        all_goals (go_wp2_with fail; go_meet; exact ⟨_, rfl, (by first | exact cell_new _ _ _ | exact cell_set5 hn1), (by (repeat (first | with_reducible exact Below.refl _ _ | with_reducible assumption | ((with_reducible refine Bw.set ?_ ?_); rotate_left; focus omega) | ((with_reducible refine Bw.al ?_ ?_); rotate_left; focus (first | omega | (simp; done) | (simp; omega))) | with_reducible refine Below.drew ?_ | with_reducible refine Bw.dr ?_ _)))⟩)
      case rest =>
      obtain ⟨g1, rfl, c1, b2⟩ := hcut
      replace c0 := cell_kept b2 zr0 c0
      replace f0 := frz_kept b2 zr0 f0
      replace bb : Below w.heap.size w wc := bb.trans (b2.mono (by omega))
      have zc1 := lt_cell c1 (by simp)
      have zc0 := lt_cell c0 (by simp)
      clear b2 k0 k1 k2 k3
      rcases ok with _ | _
      · have HE := Lib.hid (show hubOk s = false from W1.out.symm)
        go_wp2_with fail
        refine bodyPost_ret (v := .tuple #[.agg #[.int .i64 0, .int .i64 0, .int .i64 0, .int .i64 0, .int .i64 0], .int .i64 6]) (by simp (maxDischargeDepth := 8) [results, Try.results28, go_sem, c0]) rfl ?_
        exact ⟨_, _, _, _, _, _, .inr ⟨rfl, HE.out, rfl, rfl, rfl, rfl, rfl⟩, rfl, by (repeat (first | with_reducible exact Below.refl _ _ | with_reducible assumption | ((with_reducible refine Bw.set ?_ ?_); rotate_left; focus omega) | ((with_reducible refine Bw.al ?_ ?_); rotate_left; focus (first | omega | (simp; done) | (simp; omega))) | with_reducible refine Below.drew ?_ | with_reducible refine Bw.dr ?_ _))⟩
      · have IH := spec_IsHub x0 m1 m2 m3 m4
        rcases hh : hubB x0 m1 m2 m3 m4 with _ | _
        · have HE := Lib.hid (show hubOk s = false by rw [← W1.out, hh]; rfl)
          rw [hh] at IH
          replace IH := Lib.hid IH
          clear hh
          go_wp2_with fail
          (with_reducible refine (IH.out _).mono ?_)
          rintro e w5 ⟨rfl, hb5⟩
          replace c0 := cell_kept hb5 zc0 c0
          replace f0 := frz_kept hb5 zc0 f0
          replace bb : Below w.heap.size w w5 := bb.trans (hb5.mono (by omega))
          clear hb5
          go_wp2_with fail
          refine bodyPost_ret (v := .tuple #[.agg #[.int .i64 0, .int .i64 0, .int .i64 0, .int .i64 0, .int .i64 0], .int .i64 6]) (by simp (maxDischargeDepth := 8) [results, Try.results28, go_sem, c0]) rfl ?_
          exact ⟨_, _, _, _, _, _, .inr ⟨rfl, HE.out, rfl, rfl, rfl, rfl, rfl⟩, rfl, by (repeat (first | with_reducible exact Below.refl _ _ | with_reducible assumption | ((with_reducible refine Bw.set ?_ ?_); rotate_left; focus omega) | ((with_reducible refine Bw.al ?_ ?_); rotate_left; focus (first | omega | (simp; done) | (simp; omega))) | with_reducible refine Below.drew ?_ | with_reducible refine Bw.dr ?_ _))⟩
        · have HE := Lib.hid (show hubOk s = true by rw [← W1.out, hh]; rfl)
          rw [hh] at IH
          replace IH := Lib.hid IH
          clear hh
          go_wp2_with fail
          (with_reducible refine (IH.out _).mono ?_)
          rintro e w5 ⟨rfl, hb5⟩
          replace c0 := cell_kept hb5 zc0 c0
          replace c1 := cell_kept hb5 zc1 c1
          replace f0 := frz_kept hb5 zc0 f0
          replace bb : Below w.heap.size w w5 := bb.trans (hb5.mono (by omega))
          clear hb5
          go_wp2_with fail
          refine bodyPost_ret (v := .tuple #[.agg #[.int .i64 x0, .int .i64 m1, .int .i64 m2, .int .i64 m3, .int .i64 m4], .int .i64 0]) (by simp (maxDischargeDepth := 8) [results, Try.results28, go_sem, c0]) rfl ?_
          exact ⟨_, _, _, _, _, _, .inl ⟨rfl, HE.out, by rw [HP0.out, HX.out], KK.out.1.symm, KK.out.2.1.symm, KK.out.2.2.1.symm, KK.out.2.2.2.symm⟩, rfl, by (repeat (first | with_reducible exact Below.refl _ _ | with_reducible assumption | ((with_reducible refine Bw.set ?_ ?_); rotate_left; focus omega) | ((with_reducible refine Bw.al ?_ ?_); rotate_left; focus (first | omega | (simp; done) | (simp; omega))) | with_reducible refine Below.drew ?_ | with_reducible refine Bw.dr ?_ _))⟩
theorem spec_ReadHub (s : ByteArray) (w : World) (hs : s.size ≤ 1048576) : Calls Try.prog 28 #[.string s] w (HubEnd s w) := by
  by_cases h5 : (splitB s 47).length = 5
  · exact spec_ReadHub_y s w hs h5
  · exact (spec_ReadHub_n s w hs h5).mono fun e w' ⟨he, hb⟩ => ⟨_, _, _, _, _, _, .inr ⟨rfl, hubOk_no h5, rfl, rfl, rfl, rfl, rfl⟩, he, hb⟩
theorem impl_ReadHub (s : ByteArray) (w : World) (hs : s.size ≤ 1048576) : Calls Try.prog 27 #[.string s] w (HubEnd s w) := by
  by_cases h5 : (splitB s 47).length = 5
  · exact impl_ReadHub_y s w hs h5
  · exact (impl_ReadHub_n s w hs h5).mono fun e w' ⟨he, hb⟩ => ⟨_, _, _, _, _, _, .inr ⟨rfl, hubOk_no h5, rfl, rfl, rfl, rfl, rfl⟩, he, hb⟩
theorem rdHub_same {s : ByteArray} {h l r lo ro c h' l' r' lo' ro' c' : Int} (k : RdHub s h l r lo ro c) (k' : RdHub s h' l' r' lo' ro' c') : h' = h ∧ l' = l ∧ r' = r ∧ lo' = lo ∧ ro' = ro ∧ c' = c := by
  rcases k with ⟨e0, e, e1, e2, e3, e4, e5⟩ | ⟨e0, e, e1, e2, e3, e4, e5⟩
  · rcases k' with ⟨d0, d, d1, d2, d3, d4, d5⟩ | ⟨d0, d, d1, d2, d3, d4, d5⟩
    · subst e0 e1 e2 e3 e4 e5 d0 d1 d2 d3 d4 d5; exact ⟨rfl, rfl, rfl, rfl, rfl, rfl⟩
    · rw [e] at d; cases d
  · rcases k' with ⟨d0, d, d1, d2, d3, d4, d5⟩ | ⟨d0, d, d1, d2, d3, d4, d5⟩
    · rw [e] at d; cases d
    · subst e0 e1 e2 e3 e4 e5 d0 d1 d2 d3 d4 d5; exact ⟨rfl, rfl, rfl, rfl, rfl, rfl⟩
/-- One contract at one reading. -/
theorem spec_ReadHub_at {s : ByteArray} {h l r lo ro c : Int} (w : World) (hs : s.size ≤ 1048576) (k : RdHub s h l r lo ro c) :
    Calls Try.prog 28 #[.string s] w fun e w' => e = .returned (.tuple #[.agg #[.int .i64 h, .int .i64 l, .int .i64 r, .int .i64 lo, .int .i64 ro], .int .i64 c]) ∧ Below w.heap.size w w' :=
  (spec_ReadHub s w hs).mono fun e w' ⟨_, _, _, _, _, _, k', he, hb⟩ => by
    obtain ⟨e1, e2, e3, e4, e5, e6⟩ := rdHub_same k k'
    subst e1 e2 e3 e4 e5 e6
    exact ⟨he, hb⟩
theorem impl_ReadHub_at {s : ByteArray} {h l r lo ro c : Int} (w : World) (hs : s.size ≤ 1048576) (k : RdHub s h l r lo ro c) :
    Calls Try.prog 27 #[.string s] w fun e w' => e = .returned (.tuple #[.agg #[.int .i64 h, .int .i64 l, .int .i64 r, .int .i64 lo, .int .i64 ro], .int .i64 c]) ∧ Below w.heap.size w w' :=
  (impl_ReadHub s w hs).mono fun e w' ⟨_, _, _, _, _, _, k', he, hb⟩ => by
    obtain ⟨e1, e2, e3, e4, e5, e6⟩ := rdHub_same k k'
    subst e1 e2 e3 e4 e5 e6
    exact ⟨he, hb⟩

end Go.Proofs.Ytpejbmfapdocaaa
