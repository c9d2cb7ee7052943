/- Words: contracts of IsWord. Condition: the text is no longer than a slice can be. -/
import Derived.Test.YtpoeglfchgdmoaaBase
namespace Go.Proofs.Ytpoeglfchgdmoaa
open Go.RowKit

/-- The i-th byte of a text. -/
def bAt (s : ByteArray) (i : Nat) : Int := ((s.data.getD i 0).toNat : Int)
theorem bAt_get {s : ByteArray} {k : Nat} (h : k < s.size) : (s[k].toNat : Int) = bAt s k := by
  have h' : k < s.data.size := h
  simp only [bAt, Array.getD_eq_getD_getElem?, Array.getElem?_eq_getElem h', Option.getD_some]
  rfl
theorem bAt_bd (s : ByteArray) (i : Nat) : 0 ≤ bAt s i ∧ bAt s i ≤ 255 := by
  unfold bAt
  have := UInt8.toNat_lt (s.data.getD i 0)
  omega
def lowAt (s : ByteArray) (i : Nat) : Bool := decide (97 ≤ bAt s i) && decide (bAt s i ≤ 122)
def lowB (s : ByteArray) : Bool := (List.range s.size).all (lowAt s)
theorem lowB_t {s : ByteArray} (h : ∀ j, j < s.size → lowAt s j = true) : lowB s = true := by
  simp only [lowB, List.all_eq_true, List.mem_range]
  exact h
theorem lowB_f {s : ByteArray} {j : Nat} (hj : j < s.size) (h : lowAt s j = false) : lowB s = false := by
  rw [Bool.eq_false_iff]
  intro k
  simp only [lowB, List.all_eq_true, List.mem_range] at k
  rw [k j hj] at h
  cases h
theorem lowAt_t {s : ByteArray} {k : Nat} (h : k < s.size) (h1 : 97 ≤ (s[k].toNat : Int)) (h2 : (s[k].toNat : Int) ≤ 122) : lowAt s k = true := by
  rw [bAt_get h] at h1 h2
  simp [lowAt, h1, h2]
theorem lowAt_a {s : ByteArray} {k : Nat} (h : k < s.size) (h1 : (s[k].toNat : Int) < 97) : lowAt s k = false := by
  rw [bAt_get h] at h1
  simp only [lowAt, Bool.and_eq_false_iff, decide_eq_false_iff_not]
  omega
theorem lowAt_z {s : ByteArray} {k : Nat} (h : k < s.size) (h1 : 122 < (s[k].toNat : Int)) : lowAt s k = false := by
  rw [bAt_get h] at h1
  simp only [lowAt, Bool.and_eq_false_iff, decide_eq_false_iff_not]
  omega
def wordB (s : ByteArray) : Bool := lowB s && inB s.size 1 16
theorem wordB_len {s : ByteArray} (h : s.size < 1 ∨ 16 < s.size) : wordB s = false := by rw [wordB, inB_no (by omega), Bool.and_false]
theorem wordB_low {s : ByteArray} (h1 : 1 ≤ s.size) (h2 : s.size ≤ 16) : wordB s = lowB s := by rw [wordB, inB_mk (by omega), Bool.and_true]


end Go.Proofs.Ytpoeglfchgdmoaa
