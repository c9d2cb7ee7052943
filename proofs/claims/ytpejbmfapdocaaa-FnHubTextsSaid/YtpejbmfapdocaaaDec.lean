/- Decimal texts. Conditions: those that each theorem names. -/
import Derived.Test.YtpejbmfapdocaaaBase
import Derived.Laws.IdiomStrings
import Derived.Deep.RegionLaw
namespace Go.Proofs.Ytpejbmfapdocaaa
open Go.RowKit

/-- One digit as a text. -/
def dgB (d : Int) : ByteArray := { data := #[UInt8.ofNat (48 + d).toNat] }

/-- The digits of a number, the greatest first. -/
def decB (n : Nat) : ByteArray := if n < 10 then dgB n else decB (n / 10) ++ dgB ((n % 10 : Nat) : Int)
termination_by n
decreasing_by omega
theorem decB_small {n : Nat} (h : n < 10) : decB n = dgB n := by rw [decB, if_pos h]
theorem decB_big {n : Nat} (h : ¬ n < 10) : decB n = decB (n / 10) ++ dgB ((n % 10 : Nat) : Int) := by rw [decB, if_neg h]
def decI (n : Int) : ByteArray := decB n.toNat
theorem decI_small {n : Int} (h0 : 0 ≤ n) (h : n < 10) : decI n = dgB n := by
  rw [decI, decB_small (by omega), show ((n.toNat : Nat) : Int) = n by omega]
theorem decI_big {n : Int} (_h0 : 0 ≤ n) (h : ¬ n < 10) : decI n = decI (n / 10) ++ dgB (n % 10) := by
  rw [decI, decB_big (by omega), decI, show (n / 10).toNat = n.toNat / 10 by omega, show ((n.toNat % 10 : Nat) : Int) = n % 10 by omega]
theorem dgB_size (d : Int) : (dgB d).size = 1 := rfl
theorem decB_size : ∀ (k n : Nat), n < 10 ^ k → (decB n).size ≤ k + 1
  | 0, n, h => by
    rw [decB_small (by omega), dgB_size]; omega
  | k + 1, n, h => by
    rcases Nat.lt_or_ge n 10 with h1 | h1
    · rw [decB_small h1, dgB_size]; omega
    · have h2 := decB_size k (n / 10) (by rw [Nat.pow_succ] at h; omega)
      rw [decB_big (by omega), ByteArray.size_append, dgB_size]; omega
theorem decI_size {n : Int} (h : n ≤ 1000000000000000000) : (decI n).size ≤ 20 := by
  have := decB_size 19 n.toNat (by omega)
  unfold decI
  omega
theorem conv_one {W : World} {g c : Nat} {b d : Int} (hb : b = 48 + d) (h0 : 0 ≤ b) (h1 : b < 256) (hc : W.cell? ⟨g, 0, none⟩ = some (.int .u8 b)) :
    (convert 22 9 (.slice (some ⟨g, 0, none⟩) 1 c)).run Try.prog W = .ok (.string (dgB d)) W := by
  have hr := run_convert_bytes_back (P := Try.prog) W 22 9 5 ⟨g, 0, none⟩ c [UInt8.ofNat b.toNat] Try.underlying22 Try.underlying5 Try.underlying9 (fun j hj => by
    simp only [List.length_cons, List.length_nil] at hj
    obtain rfl : j = 0 := by omega
    rw [Addr.add_zero', hc]
    simp only [List.getElem_cons_zero, UInt8.toNat_ofNat']
    congr 2
    omega)
  simp only [List.length_cons, List.length_nil, Nat.zero_add] at hr
  rw [hr, hb]
  rfl

set_option maxHeartbeats 1000000 in
theorem spec_Dec_small (n : Int) (h0 : 0 ≤ n) (h1 : n < 10) (w : World) :
    Calls Try.prog 153 #[.int .i64 n] w fun e w' => e = .returned (.string (dgB n)) ∧ Below w.heap.size w w' := by
  have hcv := fun (W : World) (g c : Nat) => conv_one (W := W) (g := g) (c := c) (b := 48 + n) rfl (by omega) (by omega)
  go_enter Try.func153, Try.ntmps153
  go_wp2_with fail
  go_ret
  exact ⟨rfl, by (repeat (first | with_reducible exact Below.refl _ _ | with_reducible assumption | ((with_reducible refine Bw.set ?_ ?_); rotate_left; focus omega) | ((with_reducible refine Bw.al ?_ ?_); rotate_left; focus (first | omega | (simp; done) | (simp; omega))) | with_reducible refine Below.drew ?_ | with_reducible refine Bw.dr ?_ _))⟩
set_option maxHeartbeats 2000000 in
theorem spec_Dec_k : ∀ (k : Nat) (n : Int) (w : World), 0 ≤ n → n ≤ 1000000000000000000 → n < k →
    Calls Try.prog 153 #[.int .i64 n] w fun e w' => e = .returned (.string (decI n)) ∧ Below w.heap.size w w'
  | 0, n, w, h0, _, hk => by omega
  | k + 1, n, w, h0, h1, hk => by
    by_cases hs : n < 10
    · rw [decI_small h0 hs]
      exact spec_Dec_small n h0 hs w
    · rw [decI_big h0 hs]
      have hz := decI_size (n := n / 10) (by omega)
      have hcv := fun (W : World) (g c : Nat) => conv_one (W := W) (g := g) (c := c) (b := 48 + n % 10) rfl (by omega) (by omega)
      have e1 : IntKind.i64.wrap (48 + n % 10) = 48 + n % 10 := IntWalk.i64_in _ (by omega)
      have e2 : IntKind.u8.wrap (48 + n % 10) = 48 + n % 10 := IntWalk.u8_in _ (by omega)
      have e3 : IntKind.i64.wrap (n.tdiv 10) = n / 10 := IntWalk.i64_quo _ _ (by omega)
      have e4 : n.tmod 10 = n % 10 := Int.tmod_eq_emod_of_nonneg h0
      have hno : ¬ 9223372036854775807 < (decI (n / 10)).size + (dgB (n % 10)).size := by rw [dgB_size]; omega
      have q1 : 0 ≤ n / 10 := by omega
      have q2 : n / 10 ≤ 1000000000000000000 := by omega
      have q3 : n / 10 < k := by omega
      have ih := spec_Dec_k k (n / 10)
      have IH := Lib.hid ih
      clear ih
      go_enter Try.func153, Try.ntmps153
      go_wp2_with fail
      go_region_law (go_simp; go_at_call 153; ((with_reducible refine (IH.out _ q1 q2 q3).mono ?_); rintro e w1 ⟨rfl, hb1⟩; have hkk := fun b hlt => hb1.cell (p := ⟨b, 0, none⟩) hlt))
      all_goals
        go_wp2_with fail
        go_ret
        refine ⟨rfl, ?_⟩
        first | exact Bw.al (undrew hb1) hb1.size | exact Below.trans (by (repeat (first | with_reducible exact Below.refl _ _ | with_reducible assumption | ((with_reducible refine Bw.set ?_ ?_); rotate_left; focus omega) | ((with_reducible refine Bw.al ?_ ?_); rotate_left; focus (first | omega | (simp; done) | (simp; omega))) | with_reducible refine Below.drew ?_ | with_reducible refine Bw.dr ?_ _))) (hb1.mono (by simp))
theorem spec_Dec (n : Int) (w : World) (h0 : 0 ≤ n) (h1 : n ≤ 1000000000000000000) : Calls Try.prog 153 #[.int .i64 n] w fun e w' => e = .returned (.string (decI n)) ∧ Below w.heap.size w w' :=
  spec_Dec_k (n.toNat + 1) n w h0 h1 (by omega)
/-- A number in decimal, a minus sign ahead of it where it is below 0. -/
def minus : ByteArray := { data := #[45] }
def numB (n : Int) : ByteArray := if n < 0 then minus ++ decI (-n) else decI n
theorem numB_n {n : Int} (h : n < 0) : numB n = minus ++ decI (-n) := by rw [numB, if_pos h]
theorem numB_p {n : Int} (h : 0 ≤ n) : numB n = decI n := by rw [numB, if_neg (by omega)]
theorem numB_size {n : Int} (h : -1000000000000000000 ≤ n ∧ n ≤ 1000000000000000000) : (numB n).size ≤ 21 := by
  rcases Int.lt_or_le n 0 with h1 | h1
  · have := decI_size (n := -n) (by omega)
    rw [numB_n h1, ByteArray.size_append]
    have e : minus.size = 1 := rfl
    omega
  · have := decI_size (n := n) (by omega)
    rw [numB_p h1]
    omega
set_option maxHeartbeats 1000000 in
theorem spec_Number (n : Int) (w : World) (h0 : -1000000000000000000 ≤ n) (h1 : n ≤ 1000000000000000000) : Calls Try.prog 154 #[.int .i64 n] w fun e w' => e = .returned (.string (numB n)) ∧ Below w.heap.size w w' := by
  rcases Int.lt_or_le n 0 with h2 | h2
  · have hz := decI_size (n := -n) (by omega)
    rw [numB_n h2]
    go_enter Try.func154, Try.ntmps154
    go_wp2_with fail
    refine (spec_Dec _ _ (by omega) (by omega)).mono ?_
    rintro e w1 ⟨rfl, hb1⟩
    go_wp2_with fail
    go_ret
    exact ⟨rfl, hb1⟩
  · rw [numB_p h2]
    go_enter Try.func154, Try.ntmps154
    go_wp2_with fail
    refine (spec_Dec _ _ (by omega) (by omega)).mono ?_
    rintro e w1 ⟨rfl, hb1⟩
    go_wp2_with fail
    go_ret
    exact ⟨rfl, hb1⟩
set_option maxHeartbeats 2000000 in
theorem impl_decimal_p (n : Int) (w : World) (h0 : 0 ≤ n) (h1 : n ≤ 1000000000000000000) : Calls Try.prog 151 #[.int .i64 n] w fun e w' => e = .returned (.string (decI n)) ∧ Below w.heap.size w w' := by
  go_enter Try.func151, Try.ntmps151
  go_wp2_with fail
  go_loopw [0, 3] (fun s0 s3 wr => ∃ (m : Int) (t : ByteArray), s0 = .int .i64 m ∧ s3 = .string t ∧ 0 ≤ m ∧ m ≤ n ∧ decI n = decI m ++ t ∧ Below w.heap.size w wr) (fun s0 _ _ => (intOf s0).toNat)
  case atStart => exact ⟨n, ByteArray.empty, rfl, rfl, h0, by omega, by simp, by (repeat (first | with_reducible exact Below.refl _ _ | with_reducible assumption | ((with_reducible refine Bw.set ?_ ?_); rotate_left; focus omega) | ((with_reducible refine Bw.al ?_ ?_); rotate_left; focus (first | omega | (simp; done) | (simp; omega))) | with_reducible refine Below.drew ?_ | with_reducible refine Bw.dr ?_ _))⟩
  case round =>
    obtain ⟨m, t, rfl, rfl, m0, m1, he, hb⟩ := hrel
    have ht : t.size ≤ 20 := by
      have := decI_size h1
      rw [he, ByteArray.size_append] at this
      omega
    have HE := Lib.hid he
    have hz := hb.size
    have hcv := fun (W : World) (g c : Nat) => conv_one (W := W) (g := g) (c := c) (b := 48 + m % 10) rfl (by omega) (by omega)
    have hds := dgB_size (m % 10)
    have hno : ¬ 9223372036854775807 < (dgB (m % 10)).size + t.size := by rw [dgB_size]; omega
    clear he hds
    by_cases hs : m < 10
    · have e1 : m / 10 = 0 := by omega
      have e2 : m % 10 = m := by omega
      have HM := Lib.hid (decI_small m0 hs)
      have E2 := Lib.hid e2
      clear e1 e2
      go_wp2_with fail
      go_ret
      exact ⟨by rw [HE.out, HM.out]; first | rfl | (rw [E2.out]; rfl) | (simp only [E2.out]; rfl), by (repeat (first | with_reducible exact Below.refl _ _ | with_reducible assumption | ((with_reducible refine Bw.set ?_ ?_); rotate_left; focus omega) | ((with_reducible refine Bw.al ?_ ?_); rotate_left; focus (first | omega | (simp; done) | (simp; omega))) | with_reducible refine Below.drew ?_ | with_reducible refine Bw.dr ?_ _))⟩
    · have HM := Lib.hid (decI_big m0 hs)
      have hq : 1 ≤ m / 10 := by omega
      go_wp2_with fail
      go_roundw
      case rel => exact ⟨m / 10, _, rfl, rfl, by omega, by omega, by rw [HE.out, HM.out, ByteArray.append_assoc], by (repeat (first | with_reducible exact Below.refl _ _ | with_reducible assumption | ((with_reducible refine Bw.set ?_ ?_); rotate_left; focus omega) | ((with_reducible refine Bw.al ?_ ?_); rotate_left; focus (first | omega | (simp; done) | (simp; omega))) | with_reducible refine Below.drew ?_ | with_reducible refine Bw.dr ?_ _))⟩
      case measure => simp [intOf]; omega
set_option maxHeartbeats 1000000 in
theorem impl_decimal (n : Int) (w : World) (h0 : -1000000000000000000 ≤ n) (h1 : n ≤ 1000000000000000000) : Calls Try.prog 151 #[.int .i64 n] w fun e w' => e = .returned (.string (numB n)) ∧ Below w.heap.size w w' := by
  rcases Int.lt_or_le n 0 with h2 | h2
  · have hz := decI_size (n := -n) (by omega)
    rw [numB_n h2]
    go_enter Try.func151, Try.ntmps151
    go_wp2_with fail
    refine (impl_decimal_p _ _ (by omega) (by omega)).mono ?_
    rintro e w1 ⟨rfl, hb1⟩
    go_wp2_with fail
    go_ret
    exact ⟨rfl, hb1⟩
  · rw [numB_p h2]
    exact impl_decimal_p n w h2 h1
end Go.Proofs.Ytpejbmfapdocaaa
