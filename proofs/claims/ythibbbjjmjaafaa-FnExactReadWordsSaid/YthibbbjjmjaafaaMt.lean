/- The laws' marks on lists of texts: written, and read again. Conditions: those that each theorem names. -/
import Derived.Test.YthibbbjjmjaafaaMk
import Derived.Test.YthibbbjjmjaafaaOwn
import Derived.Test.YthibbbjjmjaafaaDec
namespace Go.Proofs.Ythibbbjjmjaafaa
open Go.RowKit

def mtB (K : Int) : ByteArray := ({ data := #[109] } : ByteArray) ++ decI K
theorem mtB_size {K : Int} (h : K ≤ 1000000000000000000) : (mtB K).size ≤ 21 := by
  have := decI_size h
  rw [mtB, ByteArray.size_append]
  have e : ({ data := #[109] } : ByteArray).size = 1 := rfl
  omega
def mks (K : Int) (n : Nat) : List ByteArray := (List.range n).map fun (j : Nat) => mtB (K + (j : Int))
theorem mks_len (K : Int) (n : Nat) : (mks K n).length = n := by simp [mks]
theorem mks_at {K : Int} {n k : Nat} (h : k < n) : sAt (mks K n) k = mtB (K + k) := by simp [sAt, mks, h]
theorem mks_succ (K : Int) (n : Nat) : mks K (n + 1) = mks K n ++ [mtB (K + n)] := by simp [mks, List.range_succ]
def mkdS (K : Int) (us : List Value) (k : Nat) : List Value := sv (mks K k) ++ us.drop k
theorem mkdS_len {K : Int} {us : List Value} {k : Nat} (h : k ≤ us.length) : (mkdS K us k).length = us.length := by simp [mkdS, sv, mks]; omega
theorem mkdS_set {K : Int} {us : List Value} {k : Nat} (h : k < us.length) : (mkdS K us k).set k (.string (mtB (K + k))) = mkdS K us (k + 1) := by
  have l1 : (sv (mks K k)).length = k := by simp [sv, mks]
  rw [mkdS, mkdS, List.set_append_right _ _ (by omega), l1, Nat.sub_self, mks_succ, List.drop_eq_getElem_cons h, List.set_cons_zero]
  simp [sv]
theorem grown_below {a w w1 : World} {row : Option Nat} (h : a.grownBy w row) (hb : Below w.heap.size w w1) : a.grownBy w1 row :=
  ⟨hb.os.trans h.os, hb.tape.trans h.tape, hb.output.trans h.output, Nat.le_trans h.size hb.size, fun i hi hne => (hb.block i (Nat.lt_of_lt_of_le hi h.size)).trans (h.block i hi hne)⟩

/-- The digits above those that are written already. -/
def topB (m : Int) : ByteArray := if m = 0 then ByteArray.empty else decI m
theorem topB_s {m : Int} (h0 : 1 ≤ m) : topB m = topB (m / 10) ++ dgB (m % 10) := by
  rw [topB, if_neg (by omega)]
  by_cases h : m < 10
  · rw [decI_small (by omega) h, topB, if_pos (by omega), show m % 10 = m by omega]; simp
  · rw [decI_big (by omega) h, topB, if_neg (by omega)]
set_option maxHeartbeats 2000000 in
theorem markText_any (n : Int) (w : World) (h0 : 1 ≤ n) (h1 : n ≤ 1000000000000000000) : Calls Try.prog 50 #[.int .i64 n] w fun e w' => e = .returned (.string (mtB n)) ∧ Below w.heap.size w w' := by
  have HT := Lib.hid (show topB n = decI n by rw [topB, if_neg (by omega)])
  go_enter Try.func50, Try.ntmps50
  go_wp2_with fail
  go_loopw [0, 3] (fun s0 s3 wr => ∃ (m : Int) (t : ByteArray), s0 = .int .i64 m ∧ s3 = .string t ∧ 0 ≤ m ∧ m ≤ n ∧ topB n = topB m ++ t ∧ Below w.heap.size w wr) (fun s0 _ _ => (intOf s0).toNat)
  case atStart => exact ⟨n, ByteArray.empty, rfl, rfl, by omega, by omega, by simp, by (repeat (first | with_reducible exact Below.refl _ _ | with_reducible assumption | ((with_reducible refine Bw.set ?_ ?_); rotate_left; focus omega) | ((with_reducible refine Bw.al ?_ ?_); rotate_left; focus (first | omega | (simp; done) | (simp; omega))) | with_reducible refine Below.drew ?_ | with_reducible refine Bw.dr ?_ _))⟩
  case round =>
    obtain ⟨m, t, rfl, rfl, m0, m1, he, hb⟩ := hrel
    have ht : t.size ≤ 20 := by
      have := decI_size h1
      rw [← HT.out, he, ByteArray.size_append] at this
      omega
    have HE := Lib.hid he
    have hz := hb.size
    clear he
    by_cases hs : 0 < m
    · have hcv := fun (W : World) (g c : Nat) => conv_one (W := W) (g := g) (c := c) (b := 48 + m % 10) rfl (by omega) (by omega)
      have hno : ¬ 9223372036854775807 < (dgB (m % 10)).size + t.size := by rw [dgB_size]; omega
      have HM := Lib.hid (topB_s (m := m) (by omega))
      go_wp2_with fail
      go_roundw
      case rel => exact ⟨m / 10, _, rfl, rfl, by omega, by omega, by rw [HE.out, HM.out, ByteArray.append_assoc], by (repeat (first | with_reducible exact Below.refl _ _ | with_reducible assumption | ((with_reducible refine Bw.set ?_ ?_); rotate_left; focus omega) | ((with_reducible refine Bw.al ?_ ?_); rotate_left; focus (first | omega | (simp; done) | (simp; omega))) | with_reducible refine Below.drew ?_ | with_reducible refine Bw.dr ?_ _))⟩
      case measure => simp [intOf]; omega
    · have hm : m = 0 := by omega
      have HM := Lib.hid (show t = decI n by rw [← HT.out, HE.out, hm]; simp [topB])
      have hno : ¬ 9223372036854775807 < ({ data := #[109] } : ByteArray).size + t.size := by
        have e : ({ data := #[109] } : ByteArray).size = 1 := rfl
        omega
      clear hm
      go_wp2_with fail
      go_ret
      exact ⟨by rw [HM.out]; rfl, hb⟩
set_option maxHeartbeats 1000000 in
theorem markStringS_any (A : Option Addr) (c : Nat) (us : List Value) (K : Int) (w : World) (hl : us.length ≤ 1048576) (hK : 1 ≤ K ∧ K ≤ 1000000000) (hw : Wr w A us) :
    Calls Try.prog 21 #[.slice A us.length c, .int .i64 K] w fun e w' => e = .returned (.int .i64 (K + us.length)) ∧ Wr w' A (sv (mks K us.length)) ∧ w.grownBy w' (A.map Addr.block) := by
  have HW := Lib.hid hw
  clear hw
  go_enter Try.func21, Try.ntmps21
  go_wp2_with fail
  go_loopw [5, 1] (fun s5 s1 wr => ∃ k : Nat, k ≤ us.length ∧ s5 = .int .i64 k ∧ s1 = .int .i64 (K + k) ∧ Wr wr A (mkdS K us k) ∧ w.grownBy wr (A.map Addr.block)) (fun s5 _ _ => us.length - (intOf s5).toNat)
  case atStart => exact ⟨0, Nat.zero_le _, rfl, by simp, by simpa [mkdS, mks, sv] using HW.out, grown_refl _ _⟩
  case round =>
    obtain ⟨k, hk, rfl, rfl, hm, hg⟩ := hrel
    have HM := Lib.hid hm
    have HG := Lib.hid hg
    clear hm hg
    by_cases hlt : k < us.length
    · go_wp2_with fail
      (with_reducible refine (markText_any (K + k) _ (by omega) (by omega)).mono ?_)
      rintro e w2 ⟨rfl, hb2⟩
      have HM2 := Lib.hid (HM.out.below hb2)
      have HG2 := Lib.hid (grown_below HG.out hb2)
      clear hb2
      obtain ⟨g, rfl, hgl, hc, hf⟩ := HM2.out.at_ (k := k) (by rw [mkdS_len hk]; exact hlt)
      generalize (mkdS K us k)[k]'(by rw [mkdS_len hk]; exact hlt) = x at *
      go_wp2_with fail
      go_roundw
      case rel => exact ⟨k + 1, by omega, by go_num, by go_num, by rw [← mkdS_set hlt]; exact HM2.out.set (by rw [mkdS_len hk]; exact hlt) _, grown_set HG2.out _ _⟩
      case measure => simp [intOf]; omega
    · obtain rfl : k = us.length := by omega
      go_wp2_with fail
      go_ret
      exact ⟨rfl, by simpa [mkdS] using HM.out, HG.out⟩
set_option maxHeartbeats 1000000 in
theorem heldStringS_any (A : Option Addr) (c n : Nat) (K : Int) (w : World) (hl : n ≤ 1048576) (hK : 1 ≤ K ∧ K ≤ 1000000000) (hr : Rd w w.heap.size A (sv (mks K n))) :
    Calls Try.prog 22 #[.slice A n c, .int .i64 K] w fun e w' => e = .returned (.int .i64 (K + n)) ∧ Below w.heap.size w w' := by
  have HR := Lib.hid hr
  clear hr
  go_enter Try.func22, Try.ntmps22
  go_wp2_with fail
  go_loopw [5, 1] (fun s5 s1 wr => ∃ k : Nat, k ≤ n ∧ s5 = .int .i64 k ∧ s1 = .int .i64 (K + k) ∧ Below w.heap.size w wr) (fun s5 _ _ => n - (intOf s5).toNat)
  case atStart => exact ⟨0, Nat.zero_le _, rfl, by simp, by (repeat (first | with_reducible exact Below.refl _ _ | with_reducible assumption | ((with_reducible refine Bw.set ?_ ?_); rotate_left; focus omega) | ((with_reducible refine Bw.al ?_ ?_); rotate_left; focus (first | omega | (simp; done) | (simp; omega))) | with_reducible refine Below.drew ?_ | with_reducible refine Bw.dr ?_ _))⟩
  case round =>
    obtain ⟨k, hk, rfl, rfl, hb⟩ := hrel
    have HB := Lib.hid hb
    have hz := hb.size
    clear hb
    by_cases hlt : k < n
    · obtain ⟨ad, rfl, h1⟩ := (HR.out.keep HB.out).str (k := k) (by rw [mks_len]; exact hlt)
      have HRY := Lib.hid (fun (y : Aft wr) => HR.out.keep (HB.out.trans (y.hb.mono hz)))
      have ha : ∀ y : Aft wr, y.w.cell? (ad.add k) = some (.string (mtB (K + k))) := fun y => by
        obtain ⟨_, e, h⟩ := (HRY.out y).str (k := k) (by rw [mks_len]; exact hlt)
        cases e
        rwa [mks_at hlt] at h
      have hkn : (k : Int) < n := by omega
      clear h1
      go_wp2_with fail
      refine region_aft wr (by kernel_rfl) (by kernel_rfl) (Below.refl _ _) ?_
      repeat (go_big_quiet_step (first | (go_at_call 50; exact aft_call (markText_any _ _ (by omega) (by omega)))))
      refine wpQuiet_nil ?_
      rintro w2 ⟨⟨_, b2⟩, rfl⟩
      go_wp2_with fail
      go_roundw
      case rel => exact ⟨k + 1, by omega, by go_num, by go_num, HB.out.trans (b2.mono hz)⟩
      case measure => simp [intOf]; omega
    · obtain rfl : k = n := by omega
      go_wp2_with fail
      go_ret
      exact ⟨rfl, HB.out⟩

end Go.Proofs.Ythibbbjjmjaafaa
