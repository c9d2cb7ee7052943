/- Hubs read by the program. Condition: the text has at most 1048576 bytes. -/
import Derived.Test.YtpejbmfapdocaaaHbQ
namespace Go.Proofs.Ytpejbmfapdocaaa
open Go.RowKit

/-- What both give for a text: the hub and the code. -/
def RdHub (s : ByteArray) (h l r lo ro c : Int) : Prop := (c = 0 ∧ hubOk s = true ∧ h = (vlF (sAt (splitB s 47) 0)).1 ∧ l = (hm s 1).1 ∧ r = (hm s 2).1 ∧ lo = (hm s 3).1 ∧ ro = (hm s 4).1) ∨
  (c = 6 ∧ hubOk s = false ∧ h = 0 ∧ l = 0 ∧ r = 0 ∧ lo = 0 ∧ ro = 0)
theorem rdHub_get (s : ByteArray) : ∃ h l r lo ro c, RdHub s h l r lo ro c := by
  rcases e : hubOk s with _ | _
  · exact ⟨_, _, _, _, _, _, .inr ⟨rfl, e, rfl, rfl, rfl, rfl, rfl⟩⟩
  · exact ⟨_, _, _, _, _, _, .inl ⟨rfl, e, rfl, rfl, rfl, rfl, rfl⟩⟩
/-- The j-th number of the array ahead of round k. -/
noncomputable def hv (s : ByteArray) (k j : Nat) : Int := if j < k then (hm s (j + 1)).1 else 0
theorem hv_new {s : ByteArray} {k j : Nat} {m : Int} (h : (hm s (j + 1)).1 = m) (hk : j < k) : hv s k j = m := by rw [hv, if_pos hk, h]
theorem hv_no {s : ByteArray} {k j : Nat} (hk : ¬ j < k) : hv s k j = 0 := by rw [hv, if_neg hk]
theorem hv_same {s : ByteArray} {k j : Nat} (hk : j ≠ k) : hv s (k + 1) j = hv s k j := by
  unfold hv
  by_cases h : j < k
  · rw [if_pos (by omega), if_pos h]
  · rw [if_neg (by omega), if_neg h]
theorem hOk_s (s : ByteArray) (k : Nat) : hOk s (k + 1) = (hOk s k && (hm s (k + 1)).2) := rfl
theorem hubOk_no {s : ByteArray} (h : (splitB s 47).length ≠ 5) : hubOk s = false := by
  rw [hubOk, decide_eq_false h]; rfl
theorem hubOk_yes {s : ByteArray} (h : (splitB s 47).length = 5) : hubOk s = (((vlF (sAt (splitB s 47) 0)).2 && hOk s 4) && hubB (vlF (sAt (splitB s 47) 0)).1 (hm s 1).1 (hm s 2).1 (hm s 3).1 (hm s 4).1) := by
  rw [hubOk, decide_eq_true h]; rfl
set_option maxRecDepth 100000 in
set_option maxHeartbeats 8000000 in
theorem impl_ReadHub_n (s : ByteArray) (w : World) (hs : s.size ≤ 1048576) (h5 : (splitB s 47).length ≠ 5) :
    Calls Try.prog 27 #[.string s] w fun e w' => e = .returned (.tuple #[.agg #[.int .i64 0, .int .i64 0, .int .i64 0, .int .i64 0, .int .i64 0], .int .i64 6]) ∧ Below w.heap.size w w' := by
  have g5 : (((splitB s 47).length : Int) == 5) = false := beq_eq_false_iff_ne.2 (by omega)
  go_enter Try.func27, Try.ntmps27
  go_upto_region 1 with fail
  obtain ⟨c0, f0, zz, bb⟩ := kept1 (w := w) (A := #[Value.int .i64 0, Value.int .i64 0, Value.int .i64 0, Value.int .i64 0, Value.int .i64 0]) (ta := 33) (Below.refl _ _)
  generalize w.alloc (.cells #[Value.int .i64 0, Value.int .i64 0, Value.int .i64 0, Value.int .i64 0, Value.int .i64 0] 33) = X at *
  go_wp2_with fail
  (with_reducible refine (impl_splitAt s 47 _ hs (by omega)).mono ?_)
  rintro e w1 ⟨v1, rfl, hown, hb1⟩
  obtain ⟨A1, cc, rfl, hr1⟩ := own_read hown
  clear hown hr1
  replace c0 := cell_kept hb1 (by omega) c0
  replace f0 := frz_kept hb1 (by omega) f0
  replace bb := bb.trans (hb1.mono (by omega))
  clear hb1
  generalize splitB s 47 = ps at *
  go_wp2_with fail
  refine bodyPost_ret (v := .tuple #[.agg #[.int .i64 0, .int .i64 0, .int .i64 0, .int .i64 0, .int .i64 0], .int .i64 6]) (by simp (maxDischargeDepth := 8) [results, Try.results27, go_sem, c0]) rfl ⟨?_, ?_⟩
  · rfl
  · (repeat (first | with_reducible exact Below.refl _ _ | with_reducible assumption | ((with_reducible refine Bw.set ?_ ?_); rotate_left; focus omega) | ((with_reducible refine Bw.al ?_ ?_); rotate_left; focus (first | omega | (simp; done) | (simp; omega))) | with_reducible refine Below.drew ?_ | with_reducible refine Bw.dr ?_ _))
/-- The end of a reading: the hub's number and what the measures gave. -/
def HubEnd (s : ByteArray) (w : World) (e : Ending) (w' : World) : Prop := ∃ h l r lo ro c : Int, RdHub s h l r lo ro c ∧ e = .returned (.tuple #[.agg #[.int .i64 h, .int .i64 l, .int .i64 r, .int .i64 lo, .int .i64 ro], .int .i64 c]) ∧ Below w.heap.size w w'
set_option maxRecDepth 100000 in
set_option maxHeartbeats 8000000 in
theorem impl_ReadHub_y (s : ByteArray) (w : World) (hs : s.size ≤ 1048576) (h5 : (splitB s 47).length = 5) :
    Calls Try.prog 27 #[.string s] w (HubEnd s w) := by
  obtain ⟨u1, u2⟩ := hub_impl s
  rw [← hubOk_yes h5] at u1 u2
  have U1 := Lib.hid u1
  have U2 := Lib.hid u2
  have HZ := Lib.hid (fun k => splitB_small s 47 k)
  clear u1 u2
  go_enter Try.func27, Try.ntmps27
  go_upto_region 1 with fail
  obtain ⟨c0, f0, zz, bb⟩ := kept1 (w := w) (A := #[Value.int .i64 0, Value.int .i64 0, Value.int .i64 0, Value.int .i64 0, Value.int .i64 0]) (ta := 33) (Below.refl _ _)
  generalize w.alloc (.cells #[Value.int .i64 0, Value.int .i64 0, Value.int .i64 0, Value.int .i64 0, Value.int .i64 0] 33) = X at *
  go_wp2_with fail
  (with_reducible refine (impl_splitAt s 47 _ hs (by omega)).mono ?_)
  rintro e w1 ⟨v1, rfl, hown, hb1⟩
  obtain ⟨A1, cc, rfl, hr1⟩ := own_read hown
  clear hown
  replace c0 := cell_kept hb1 (by omega) c0
  replace f0 := frz_kept hb1 (by omega) f0
  replace bb := bb.trans (hb1.mono (by omega))
  replace zz : w.heap.size + 1 ≤ w1.heap.size := by have := hb1.size; omega
  clear hb1
  have g5 : (((splitB s 47).length : Int) == 5) = true := by rw [h5]; rfl
  have hl5 : 5 ≤ (splitB s 47).length := by omega
  obtain ⟨ad, rfl, ha0⟩ := hr1.str (k := 0) (by omega)
  have ha0' : w1.cell? ad = some (.string (sAt (splitB s 47) 0)) := by simpa [Addr.add] using ha0
  have HR := Lib.hid hr1
  have HC := Lib.hid c0
  have HF := Lib.hid f0
  clear ha0 hr1 c0 f0
  obtain ⟨p0, hp0⟩ : ∃ p0, sAt (splitB s 47) 0 = p0 := ⟨_, rfl⟩
  obtain ⟨x0, o0, hx0⟩ : ∃ x0 o0, rdF p0 = (x0, o0) := ⟨_, _, rfl⟩
  have HX := Lib.hid hx0
  have HP0 := Lib.hid hp0
  have HZ0 := Lib.hid (show p0.size ≤ maxLen by have := HZ.out 0; rw [hp0] at this; unfold maxLen; omega)
  rw [hp0] at ha0'
  clear hp0 hx0
  obtain ⟨n5, hn5⟩ : ∃ n5, (splitB s 47).length = n5 := ⟨_, rfl⟩
  rw [hn5] at g5 hl5 ⊢
  have HN := Lib.hid hn5
  clear hn5 h5
  go_wp2_with fail
  (with_reducible refine (impl_readDecimal p0 _ HZ0.out).mono ?_)
  rintro e w2 ⟨rfl, rfl⟩
  rw [HX.out]
  go_wp2_with fail
  have cn := cell_new w1 #[Value.int .i64 0, Value.int .i64 0, Value.int .i64 0, Value.int .i64 0] 103
  have fn := frz_new w1 #[Value.int .i64 0, Value.int .i64 0, Value.int .i64 0, Value.int .i64 0] 103
  have bn : Below w1.heap.size w1 (w1.alloc (.cells #[Value.int .i64 0, Value.int .i64 0, Value.int .i64 0, Value.int .i64 0] 103)) := by (repeat (first | with_reducible exact Below.refl _ _ | with_reducible assumption | ((with_reducible refine Bw.set ?_ ?_); rotate_left; focus omega) | ((with_reducible refine Bw.al ?_ ?_); rotate_left; focus (first | omega | (simp; done) | (simp; omega))) | with_reducible refine Below.drew ?_ | with_reducible refine Bw.dr ?_ _))
  clear ha0'
  go_loopw [25, 6] (fun s25 s6 wr => ∃ k : Nat, k ≤ 4 ∧ s25 = .int .i64 k ∧ s6 = .bool (o0 && hOk s k) ∧ (∀ i, wr.cell? ⟨w1.heap.size, i, none⟩ = #[Value.int .i64 (hv s k 0), .int .i64 (hv s k 1), .int .i64 (hv s k 2), .int .i64 (hv s k 3)][i]?) ∧ (∀ i, wr.frozen? ⟨w1.heap.size, i, none⟩ = false) ∧ Below w1.heap.size w1 wr ∧ w1.heap.size < wr.heap.size) (fun s25 _ _ => 4 - (intOf s25).toNat)
  case atStart => exact ⟨0, by omega, rfl, by simp [hOk], cn, fn, bn, by simp⟩
  case round =>
    clear cn fn bn
    obtain ⟨k, hk, rfl, rfl, hc, hf, hb, hz⟩ := hrel
    have HB := Lib.hid hb
    by_cases hlt : k < 4
    · obtain ⟨ad', e', ha⟩ := (HR.out.keep hb).str (k := k + 1) (by rw [HN.out]; omega)
      cases e'
      have HS := Lib.hid (hOk_s s k)
      obtain ⟨p, hp⟩ : ∃ p, sAt (splitB s 47) (k + 1) = p := ⟨_, rfl⟩
      have hpz : p.size ≤ 1048576 := by have := HZ.out (k + 1); rw [hp] at this; omega
      obtain ⟨m, fine, hmf⟩ : ∃ m fine, mdF p = (m, fine) := ⟨_, _, rfl⟩
      have HMK := Lib.hid (show hm s (k + 1) = (m, fine) by rw [hm, hp]; exact hmf)
      have HM := Lib.hid hmf
      rw [hp] at ha
      clear hp hmf
      obtain ⟨o, ho⟩ : ∃ o, (o0 && hOk s k) = o := ⟨_, rfl⟩
      rw [ho]
      have HST := Lib.hid (show (o0 && hOk s (k + 1)) = (o && fine) by rw [hOk_s, ← Bool.and_assoc, ho, HMK.out])
      clear ho HS
      obtain rfl | rfl | rfl | rfl : k = 0 ∨ k = 1 ∨ k = 2 ∨ k = 3 := by omega
      · have ha' : wr.cell? ⟨ad.block, ad.off + 1, none⟩ = some (.string p) := by simpa [Addr.add] using ha
        clear ha
        go_wp2_with fail
        (with_reducible refine (impl_readMeasure_md p _ hpz).mono ?_)
        rintro e w4 ⟨rfl, hb4⟩
        rw [HM.out]
        have hc4 := cell_kept hb4 hz hc
        have hf4 := frz_kept hb4 hz hf
        have HC4 := Lib.hid hc4
        have HF4 := Lib.hid hf4
        have ck := hc4 0
        have fk := hf4 0
        have z4 := hb4.size
        replace HB := Lib.hid (HB.out.trans (hb4.mono (by omega)))
        clear hb4 hc hf hc4 hf4 ha' hb
        have E0 := Lib.hid (show hv s 1 0 = m by first | exact hv_same (by omega) | exact hv_new (by rw [HMK.out]) (by omega))
        have E1 := Lib.hid (show hv s 1 1 = hv s 0 1 by first | exact hv_same (by omega) | exact hv_new (by rw [HMK.out]) (by omega))
        have E2 := Lib.hid (show hv s 1 2 = hv s 0 2 by first | exact hv_same (by omega) | exact hv_new (by rw [HMK.out]) (by omega))
        have E3 := Lib.hid (show hv s 1 3 = hv s 0 3 by first | exact hv_same (by omega) | exact hv_new (by rw [HMK.out]) (by omega))
        rcases o with _ | _
        all_goals
          go_wp2_with fail
          go_roundw
          case rel =>
            refine ⟨1, by omega, by first | rfl | go_num, by first | (rw [HST.out]; done) | (rw [HST.out]; rfl) | (rw [HST.out]; cases fine <;> rfl) | (rw [HST.out]; simp), fun i => ?_, frz_put HF4.out 0 _, by have := HB.out; (repeat (first | with_reducible exact Below.refl _ _ | with_reducible assumption | ((with_reducible refine Bw.set ?_ ?_); rotate_left; focus omega) | ((with_reducible refine Bw.al ?_ ?_); rotate_left; focus (first | omega | (simp; done) | (simp; omega))) | with_reducible refine Below.drew ?_ | with_reducible refine Bw.dr ?_ _)), by first | omega | (simp; omega)⟩
            have h := cell_put HC4.out 0 (.int .i64 m) (by simp) i
            rw [E0.out, E1.out, E2.out, E3.out]
            simpa using h
          case measure => first | (simp [intOf]; done) | (simp [intOf]; omega)
      · have ha' : wr.cell? ⟨ad.block, ad.off + 2, none⟩ = some (.string p) := by simpa [Addr.add] using ha
        clear ha
        go_wp2_with fail
        (with_reducible refine (impl_readMeasure_md p _ hpz).mono ?_)
        rintro e w4 ⟨rfl, hb4⟩
        rw [HM.out]
        have hc4 := cell_kept hb4 hz hc
        have hf4 := frz_kept hb4 hz hf
        have HC4 := Lib.hid hc4
        have HF4 := Lib.hid hf4
        have ck := hc4 1
        have fk := hf4 1
        have z4 := hb4.size
        replace HB := Lib.hid (HB.out.trans (hb4.mono (by omega)))
        clear hb4 hc hf hc4 hf4 ha' hb
        have E0 := Lib.hid (show hv s 2 0 = hv s 1 0 by first | exact hv_same (by omega) | exact hv_new (by rw [HMK.out]) (by omega))
        have E1 := Lib.hid (show hv s 2 1 = m by first | exact hv_same (by omega) | exact hv_new (by rw [HMK.out]) (by omega))
        have E2 := Lib.hid (show hv s 2 2 = hv s 1 2 by first | exact hv_same (by omega) | exact hv_new (by rw [HMK.out]) (by omega))
        have E3 := Lib.hid (show hv s 2 3 = hv s 1 3 by first | exact hv_same (by omega) | exact hv_new (by rw [HMK.out]) (by omega))
        rcases o with _ | _
        all_goals
          go_wp2_with fail
          go_roundw
          case rel =>
            refine ⟨2, by omega, by first | rfl | go_num, by first | (rw [HST.out]; done) | (rw [HST.out]; rfl) | (rw [HST.out]; cases fine <;> rfl) | (rw [HST.out]; simp), fun i => ?_, frz_put HF4.out 1 _, by have := HB.out; (repeat (first | with_reducible exact Below.refl _ _ | with_reducible assumption | ((with_reducible refine Bw.set ?_ ?_); rotate_left; focus omega) | ((with_reducible refine Bw.al ?_ ?_); rotate_left; focus (first | omega | (simp; done) | (simp; omega))) | with_reducible refine Below.drew ?_ | with_reducible refine Bw.dr ?_ _)), by first | omega | (simp; omega)⟩
            have h := cell_put HC4.out 1 (.int .i64 m) (by simp) i
            rw [E0.out, E1.out, E2.out, E3.out]
            simpa using h
          case measure => first | (simp [intOf]; done) | (simp [intOf]; omega)
      · have ha' : wr.cell? ⟨ad.block, ad.off + 3, none⟩ = some (.string p) := by simpa [Addr.add] using ha
        clear ha
        go_wp2_with fail
        (with_reducible refine (impl_readMeasure_md p _ hpz).mono ?_)
        rintro e w4 ⟨rfl, hb4⟩
        rw [HM.out]
        have hc4 := cell_kept hb4 hz hc
        have hf4 := frz_kept hb4 hz hf
        have HC4 := Lib.hid hc4
        have HF4 := Lib.hid hf4
        have ck := hc4 2
        have fk := hf4 2
        have z4 := hb4.size
        replace HB := Lib.hid (HB.out.trans (hb4.mono (by omega)))
        clear hb4 hc hf hc4 hf4 ha' hb
        have E0 := Lib.hid (show hv s 3 0 = hv s 2 0 by first | exact hv_same (by omega) | exact hv_new (by rw [HMK.out]) (by omega))
        have E1 := Lib.hid (show hv s 3 1 = hv s 2 1 by first | exact hv_same (by omega) | exact hv_new (by rw [HMK.out]) (by omega))
        have E2 := Lib.hid (show hv s 3 2 = m by first | exact hv_same (by omega) | exact hv_new (by rw [HMK.out]) (by omega))
        have E3 := Lib.hid (show hv s 3 3 = hv s 2 3 by first | exact hv_same (by omega) | exact hv_new (by rw [HMK.out]) (by omega))
        rcases o with _ | _
        all_goals
          go_wp2_with fail
          go_roundw
          case rel =>
            refine ⟨3, by omega, by first | rfl | go_num, by first | (rw [HST.out]; done) | (rw [HST.out]; rfl) | (rw [HST.out]; cases fine <;> rfl) | (rw [HST.out]; simp), fun i => ?_, frz_put HF4.out 2 _, by have := HB.out; (repeat (first | with_reducible exact Below.refl _ _ | with_reducible assumption | ((with_reducible refine Bw.set ?_ ?_); rotate_left; focus omega) | ((with_reducible refine Bw.al ?_ ?_); rotate_left; focus (first | omega | (simp; done) | (simp; omega))) | with_reducible refine Below.drew ?_ | with_reducible refine Bw.dr ?_ _)), by first | omega | (simp; omega)⟩
            have h := cell_put HC4.out 2 (.int .i64 m) (by simp) i
            rw [E0.out, E1.out, E2.out, E3.out]
            simpa using h
          case measure => first | (simp [intOf]; done) | (simp [intOf]; omega)
      · have ha' : wr.cell? ⟨ad.block, ad.off + 4, none⟩ = some (.string p) := by simpa [Addr.add] using ha
        clear ha
        go_wp2_with fail
        (with_reducible refine (impl_readMeasure_md p _ hpz).mono ?_)
        rintro e w4 ⟨rfl, hb4⟩
        rw [HM.out]
        have hc4 := cell_kept hb4 hz hc
        have hf4 := frz_kept hb4 hz hf
        have HC4 := Lib.hid hc4
        have HF4 := Lib.hid hf4
        have ck := hc4 3
        have fk := hf4 3
        have z4 := hb4.size
        replace HB := Lib.hid (HB.out.trans (hb4.mono (by omega)))
        clear hb4 hc hf hc4 hf4 ha' hb
        have E0 := Lib.hid (show hv s 4 0 = hv s 3 0 by first | exact hv_same (by omega) | exact hv_new (by rw [HMK.out]) (by omega))
        have E1 := Lib.hid (show hv s 4 1 = hv s 3 1 by first | exact hv_same (by omega) | exact hv_new (by rw [HMK.out]) (by omega))
        have E2 := Lib.hid (show hv s 4 2 = hv s 3 2 by first | exact hv_same (by omega) | exact hv_new (by rw [HMK.out]) (by omega))
        have E3 := Lib.hid (show hv s 4 3 = m by first | exact hv_same (by omega) | exact hv_new (by rw [HMK.out]) (by omega))
        rcases o with _ | _
        all_goals
          go_wp2_with fail
          go_roundw
          case rel =>
            refine ⟨4, by omega, by first | rfl | go_num, by first | (rw [HST.out]; done) | (rw [HST.out]; rfl) | (rw [HST.out]; cases fine <;> rfl) | (rw [HST.out]; simp), fun i => ?_, frz_put HF4.out 3 _, by have := HB.out; (repeat (first | with_reducible exact Below.refl _ _ | with_reducible assumption | ((with_reducible refine Bw.set ?_ ?_); rotate_left; focus omega) | ((with_reducible refine Bw.al ?_ ?_); rotate_left; focus (first | omega | (simp; done) | (simp; omega))) | with_reducible refine Below.drew ?_ | with_reducible refine Bw.dr ?_ _)), by first | omega | (simp; omega)⟩
            have h := cell_put HC4.out 3 (.int .i64 m) (by simp) i
            rw [E0.out, E1.out, E2.out, E3.out]
            simpa using h
          case measure => first | (simp [intOf]; done) | (simp [intOf]; omega)
    · obtain rfl : k = 4 := by omega
      have c0 := cell_kept hb (by omega) HC.out
      have f0 := frz_kept hb (by omega) HF.out
      replace bb : Below w.heap.size w wr := bb.trans (hb.mono (by omega))
      have HO := Lib.hid (show (o0 && hOk s 4) = (o0 && hOk s 4) from rfl)
      obtain ⟨m1, hm1⟩ : ∃ m, hv s 4 0 = m := ⟨_, rfl⟩
      obtain ⟨m2, hm2⟩ : ∃ m, hv s 4 1 = m := ⟨_, rfl⟩
      obtain ⟨m3, hm3⟩ : ∃ m, hv s 4 2 = m := ⟨_, rfl⟩
      obtain ⟨m4, hm4⟩ : ∃ m, hv s 4 3 = m := ⟨_, rfl⟩
      rw [hm1, hm2, hm3, hm4] at hc
      have K1 : (hm s 1).1 = m1 := hm1
      have K2 : (hm s 2).1 = m2 := hm2
      have K3 : (hm s 3).1 = m3 := hm3
      have K4 : (hm s 4).1 = m4 := hm4
      have V1 := U1.out
      have V2 := U2.out
      rw [HP0.out, HX.out, K1, K2, K3, K4] at V1
      rw [HP0.out, HX.out] at V2
      simp only at V1 V2
      have W1 := Lib.hid V1
      have W2 := Lib.hid V2
      have KK := Lib.hid (And.intro K1 (And.intro K2 (And.intro K3 K4)))
      clear hm1 hm2 hm3 hm4 K1 K2 K3 K4 V1 V2 HO hb HB hk hlt
      generalize (o0 && hOk s 4) = ok at *
      go_upto_region 14 with fail
      have c1 := cell_new wr #[Value.int .i64 x0, Value.int .i64 m1, Value.int .i64 m2, Value.int .i64 m3, Value.int .i64 m4] 33
      have zr : w.heap.size < wr.heap.size := by omega
      replace c0 := cell_alloc c0 zr (.cells #[Value.int .i64 x0, Value.int .i64 m1, Value.int .i64 m2, Value.int .i64 m3, Value.int .i64 m4] 33)
      replace f0 := frz_alloc f0 zr (.cells #[Value.int .i64 x0, Value.int .i64 m1, Value.int .i64 m2, Value.int .i64 m3, Value.int .i64 m4] 33)
      replace bb : Below w.heap.size w (wr.alloc (.cells #[Value.int .i64 x0, Value.int .i64 m1, Value.int .i64 m2, Value.int .i64 m3, Value.int .i64 m4] 33)) := bb.alloc (by omega) _
      have zc1 := lt_cell c1 (by simp)
      have zc0 := lt_cell c0 (by simp)
      clear hc hf
      generalize wr.alloc (.cells #[Value.int .i64 x0, Value.int .i64 m1, Value.int .i64 m2, Value.int .i64 m3, Value.int .i64 m4] 33) = Y at *
      generalize wr.heap.size = g1 at *
      rcases ok with _ | _
      · have HE := Lib.hid (show hubOk s = false from W1.out.symm)
        go_wp2_with fail
        refine bodyPost_ret (v := .tuple #[.agg #[.int .i64 0, .int .i64 0, .int .i64 0, .int .i64 0, .int .i64 0], .int .i64 6]) (by simp (maxDischargeDepth := 8) [results, Try.results27, go_sem, c0]) rfl ?_
        exact ⟨_, _, _, _, _, _, .inr ⟨rfl, HE.out, rfl, rfl, rfl, rfl, rfl⟩, rfl, by (repeat (first | with_reducible exact Below.refl _ _ | with_reducible assumption | ((with_reducible refine Bw.set ?_ ?_); rotate_left; focus omega) | ((with_reducible refine Bw.al ?_ ?_); rotate_left; focus (first | omega | (simp; done) | (simp; omega))) | with_reducible refine Below.drew ?_ | with_reducible refine Bw.dr ?_ _))⟩
      · have IH := impl_IsHub x0 m1 m2 m3 m4
        rcases hh : hubB x0 m1 m2 m3 m4 with _ | _
        · have HE := Lib.hid (show hubOk s = false by rw [← W1.out, hh]; rfl)
          rw [hh] at IH
          replace IH := Lib.hid IH
          clear hh
          go_wp2_with fail
          (with_reducible refine (IH.out _).mono ?_)
          rintro e w5 ⟨rfl, hb5⟩
          replace c0 := cell_kept hb5 zc0 c0
          replace f0 := frz_kept hb5 zc0 f0
          replace bb : Below w.heap.size w w5 := bb.trans (hb5.mono (by omega))
          clear hb5
          go_wp2_with fail
          refine bodyPost_ret (v := .tuple #[.agg #[.int .i64 0, .int .i64 0, .int .i64 0, .int .i64 0, .int .i64 0], .int .i64 6]) (by simp (maxDischargeDepth := 8) [results, Try.results27, go_sem, c0]) rfl ?_
          exact ⟨_, _, _, _, _, _, .inr ⟨rfl, HE.out, rfl, rfl, rfl, rfl, rfl⟩, rfl, by (repeat (first | with_reducible exact Below.refl _ _ | with_reducible assumption | ((with_reducible refine Bw.set ?_ ?_); rotate_left; focus omega) | ((with_reducible refine Bw.al ?_ ?_); rotate_left; focus (first | omega | (simp; done) | (simp; omega))) | with_reducible refine Below.drew ?_ | with_reducible refine Bw.dr ?_ _))⟩
        · have HE := Lib.hid (show hubOk s = true by rw [← W1.out, hh]; rfl)
          have HX0 := Lib.hid (W2.out HE.out)
          rw [hh] at IH
          replace IH := Lib.hid IH
          clear hh
          go_wp2_with fail
          (with_reducible refine (IH.out _).mono ?_)
          rintro e w5 ⟨rfl, hb5⟩
          replace c0 := cell_kept hb5 zc0 c0
          replace c1 := cell_kept hb5 zc1 c1
          replace f0 := frz_kept hb5 zc0 f0
          replace bb : Below w.heap.size w w5 := bb.trans (hb5.mono (by omega))
          clear hb5
          go_wp2_with fail
          refine bodyPost_ret (v := .tuple #[.agg #[.int .i64 x0, .int .i64 m1, .int .i64 m2, .int .i64 m3, .int .i64 m4], .int .i64 0]) (by simp (maxDischargeDepth := 8) [results, Try.results27, go_sem, c0]) rfl ?_
          exact ⟨_, _, _, _, _, _, .inl ⟨rfl, HE.out, by rw [HP0.out]; exact HX0.out, KK.out.1.symm, KK.out.2.1.symm, KK.out.2.2.1.symm, KK.out.2.2.2.symm⟩, rfl, by (repeat (first | with_reducible exact Below.refl _ _ | with_reducible assumption | ((with_reducible refine Bw.set ?_ ?_); rotate_left; focus omega) | ((with_reducible refine Bw.al ?_ ?_); rotate_left; focus (first | omega | (simp; done) | (simp; omega))) | with_reducible refine Below.drew ?_ | with_reducible refine Bw.dr ?_ _))⟩

end Go.Proofs.Ytpejbmfapdocaaa
