/- Words: contracts of IsWord. Condition: the text is no longer than a slice can be. -/
import Derived.Test.YtpejbmfapdocaaaBase
namespace Go.Proofs.Ytpejbmfapdocaaa
open Go.RowKit

/-- The i-th byte of a text. -/
def bAt (s : ByteArray) (i : Nat) : Int := ((s.data.getD i 0).toNat : Int)
theorem bAt_get {s : ByteArray} {k : Nat} (h : k < s.size) : (s[k].toNat : Int) = bAt s k := by
  have h' : k < s.data.size := h
  simp only [bAt, Array.getD_eq_getD_getElem?, Array.getElem?_eq_getElem h', Option.getD_some]
  rfl
theorem bAt_bd (s : ByteArray) (i : Nat) : 0 ≤ bAt s i ∧ bAt s i ≤ 255 := by
  unfold bAt
  have := UInt8.toNat_lt (s.data.getD i 0)
  omega
def lowAt (s : ByteArray) (i : Nat) : Bool := decide (97 ≤ bAt s i) && decide (bAt s i ≤ 122)
def lowB (s : ByteArray) : Bool := (List.range s.size).all (lowAt s)
theorem lowB_t {s : ByteArray} (h : ∀ j, j < s.size → lowAt s j = true) : lowB s = true := by
  simp only [lowB, List.all_eq_true, List.mem_range]
  exact h
theorem lowB_f {s : ByteArray} {j : Nat} (hj : j < s.size) (h : lowAt s j = false) : lowB s = false := by
  rw [Bool.eq_false_iff]
  intro k
  simp only [lowB, List.all_eq_true, List.mem_range] at k
  rw [k j hj] at h
  cases h
theorem lowAt_t {s : ByteArray} {k : Nat} (h : k < s.size) (h1 : 97 ≤ (s[k].toNat : Int)) (h2 : (s[k].toNat : Int) ≤ 122) : lowAt s k = true := by
  rw [bAt_get h] at h1 h2
  simp [lowAt, h1, h2]
theorem lowAt_a {s : ByteArray} {k : Nat} (h : k < s.size) (h1 : (s[k].toNat : Int) < 97) : lowAt s k = false := by
  rw [bAt_get h] at h1
  simp only [lowAt, Bool.and_eq_false_iff, decide_eq_false_iff_not]
  omega
theorem lowAt_z {s : ByteArray} {k : Nat} (h : k < s.size) (h1 : 122 < (s[k].toNat : Int)) : lowAt s k = false := by
  rw [bAt_get h] at h1
  simp only [lowAt, Bool.and_eq_false_iff, decide_eq_false_iff_not]
  omega
def wordB (s : ByteArray) : Bool := lowB s && inB s.size 1 16
theorem wordB_len {s : ByteArray} (h : s.size < 1 ∨ 16 < s.size) : wordB s = false := by rw [wordB, inB_no (by omega), Bool.and_false]
theorem wordB_low {s : ByteArray} (h1 : 1 ≤ s.size) (h2 : s.size ≤ 16) : wordB s = lowB s := by rw [wordB, inB_mk (by omega), Bool.and_true]

set_option maxHeartbeats 1000000 in
theorem impl_IsWord (s : ByteArray) (w : World) (hs : s.size ≤ maxLen) :
    Calls Try.prog 55 #[.string s] w fun e w' => e = .returned (.bool (wordB s)) ∧ w = w' := by
  unfold maxLen at hs
  by_cases h1 : s.size < 1
  · have HO := Lib.hid (wordB_len (.inl h1))
    go_enter Try.func55, Try.ntmps55
    go_wp2_with fail
    go_ret
    exact ⟨retb HO.out.symm, rfl⟩
  by_cases h2 : 16 < s.size
  · have HO := Lib.hid (wordB_len (.inr h2))
    go_enter Try.func55, Try.ntmps55
    go_wp2_with fail
    go_ret
    exact ⟨retb HO.out.symm, rfl⟩
  have HO := Lib.hid (wordB_low (s := s) (by omega) (by omega))
  go_enter Try.func55, Try.ntmps55
  go_wp2_with fail
  go_loop [3] (fun s3 => ∃ k : Nat, k ≤ s.size ∧ s3 = .int .i64 k ∧ ∀ j, j < k → lowAt s j = true) (fun s3 => s.size - (intOf s3).toNat)
  case atStart => exact ⟨0, Nat.zero_le _, rfl, fun j h => absurd h (by omega)⟩
  case round =>
    obtain ⟨k, hk, rfl, hok⟩ := hrel
    have HL := Lib.hid hok
    clear hok
    by_cases hlt : k < s.size
    · by_cases q1 : (s[k].toNat : Int) < 97
      · go_wp2_with fail
        go_ret
        exact ⟨retb (by rw [HO.out, lowB_f hlt (lowAt_a hlt q1)]), rfl⟩
      by_cases q2 : 122 < (s[k].toNat : Int)
      · go_wp2_with fail
        go_ret
        exact ⟨retb (by rw [HO.out, lowB_f hlt (lowAt_z hlt q2)]), rfl⟩
      go_wp2_with fail
      go_round
      case rel =>
        refine ⟨k + 1, by omega, by go_num, fun j hj => ?_⟩
        by_cases e : j = k
        · subst e; exact lowAt_t hlt (by omega) (by omega)
        · exact HL.out j (by omega)
      case measure => simp [intOf]; omega
    · obtain rfl : k = s.size := by omega
      go_wp2_with fail
      go_ret
      exact ⟨retb (by rw [HO.out, lowB_t HL.out]), rfl⟩
set_option maxHeartbeats 1000000 in
theorem spec_IsWord (s : ByteArray) (w : World) (hs : s.size ≤ maxLen) :
    Calls Try.prog 56 #[.string s] w fun e w' => e = .returned (.bool (wordB s)) ∧ w = w' := by
  unfold maxLen at hs
  go_enter Try.func56, Try.ntmps56
  go_wp2_with fail
  go_loop [3] (fun s3 => ∃ k : Nat, k ≤ s.size ∧ s3 = .int .i64 k ∧ ∀ j, j < k → lowAt s j = true) (fun s3 => s.size - (intOf s3).toNat)
  case atStart => exact ⟨0, Nat.zero_le _, rfl, fun j h => absurd h (by omega)⟩
  case round =>
    obtain ⟨k, hk, rfl, hok⟩ := hrel
    have HL := Lib.hid hok
    clear hok
    by_cases hlt : k < s.size
    · by_cases q1 : (s[k].toNat : Int) < 97
      · go_wp2_with fail
        go_ret
        exact ⟨retb (by rw [wordB, lowB_f hlt (lowAt_a hlt q1)]; rfl), rfl⟩
      by_cases q2 : 122 < (s[k].toNat : Int)
      · go_wp2_with fail
        go_ret
        exact ⟨retb (by rw [wordB, lowB_f hlt (lowAt_z hlt q2)]; rfl), rfl⟩
      go_wp2_with fail
      go_round
      case rel =>
        refine ⟨k + 1, by omega, by go_num, fun j hj => ?_⟩
        by_cases e : j = k
        · subst e; exact lowAt_t hlt (by omega) (by omega)
        · exact HL.out j (by omega)
      case measure => simp [intOf]; omega
    · obtain rfl : k = s.size := by omega
      go_wp2_with fail
      refine (spec_In _ _ _ _).mono ?_
      rintro e w1 ⟨rfl, rfl⟩
      go_wp2_with fail
      go_ret
      exact ⟨retb (by rw [wordB, lowB_t HL.out, Bool.true_and]), rfl⟩

end Go.Proofs.Ytpejbmfapdocaaa
