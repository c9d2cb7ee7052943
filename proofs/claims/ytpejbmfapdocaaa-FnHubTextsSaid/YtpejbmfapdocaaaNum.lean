/- Digits and the numbers that they write: plain facts on texts, no program in sight. No condition. -/
import Derived.Test.YtpejbmfapdocaaaWd
import Derived.Test.YtpejbmfapdocaaaDec
namespace Go.Proofs.Ytpejbmfapdocaaa
open Go.RowKit

def digAt (s : ByteArray) (i : Nat) : Bool := inB (bAt s i) 48 57
def allDig (s : ByteArray) : Bool := (List.range s.size).all (digAt s)
theorem allDig_t {s : ByteArray} (h : ∀ j, j < s.size → digAt s j = true) : allDig s = true := by
  simp only [allDig, List.all_eq_true, List.mem_range]
  exact h
theorem allDig_get {s : ByteArray} (h : allDig s = true) {j : Nat} (hj : j < s.size) : digAt s j = true := by
  simp only [allDig, List.all_eq_true, List.mem_range] at h
  exact h j hj
theorem allDig_f {s : ByteArray} {j : Nat} (hj : j < s.size) (h : digAt s j = false) : allDig s = false := by
  rw [Bool.eq_false_iff]
  intro k
  rw [allDig_get k hj] at h
  cases h
theorem digAt_t {s : ByteArray} {k : Nat} (h : k < s.size) (h1 : 48 ≤ (s[k].toNat : Int)) (h2 : (s[k].toNat : Int) ≤ 57) : digAt s k = true := by
  rw [bAt_get h] at h1 h2
  exact inB_mk ⟨h1, h2⟩
theorem digAt_f {s : ByteArray} {k : Nat} (h : k < s.size) (h1 : (s[k].toNat : Int) < 48 ∨ 57 < (s[k].toNat : Int)) : digAt s k = false := by
  rw [bAt_get h] at h1
  exact inB_no (by omega)
/-- The number that the first k bytes write. -/
def valB (s : ByteArray) : Nat → Int
  | 0 => 0
  | k + 1 => 10 * valB s k + (bAt s k - 48)
theorem valB_s {s : ByteArray} {k : Nat} (h : k < s.size) : valB s (k + 1) = 10 * valB s k + ((s[k].toNat : Int) - 48) := by rw [valB, bAt_get h]
theorem valB_bd {s : ByteArray} : ∀ {k : Nat}, (∀ j, j < k → digAt s j = true) → 0 ≤ valB s k ∧ valB s k < 10 ^ k
  | 0, _ => by simp [valB]
  | k + 1, h => by
    have h1 := valB_bd (s := s) (k := k) (fun j hj => h j (by omega))
    have h2 := inB_t (h k (by omega))
    rw [valB, Int.pow_succ]
    omega
theorem pow_bd {k n : Nat} (h : k ≤ n) : (10 : Int) ^ k ≤ 10 ^ n := by exact_mod_cast Nat.pow_le_pow_right (by omega) h
theorem valB_17 {s : ByteArray} {k : Nat} (h : ∀ j, j < k → digAt s j = true) (hk : k ≤ 17) : 0 ≤ valB s k ∧ valB s k < 100000000000000000 := by
  have h1 := valB_bd h
  have h2 := pow_bd hk
  omega
theorem valB_18 {s : ByteArray} {k : Nat} (h : ∀ j, j < k → digAt s j = true) (hk : k ≤ 18) : 0 ≤ valB s k ∧ valB s k < 1000000000000000000 := by
  have h1 := valB_bd h
  have h2 := pow_bd hk
  omega
/-- Is there a minus sign ahead? And what stands behind it. -/
def negB (s : ByteArray) : Bool := decide (0 < s.size) && decide (bAt s 0 = 45)
def tailB (s : ByteArray) : ByteArray := s.extract 1 s.size
theorem tailB_size (s : ByteArray) : (tailB s).size = s.size - 1 := by simp [tailB]
/-- What stands behind the sign, as readDecimal reads it; big: is the whole text longer than one byte? -/
def rdU (d : ByteArray) (big : Bool) : Int × Bool :=
  if d.size = 0 ∨ 18 < d.size ∨ (bAt d 0 = 48 ∧ (1 < d.size ∨ big = true)) then (0, false) else if allDig d then (valB d d.size, true) else (0, false)
def rdF (s : ByteArray) : Int × Bool :=
  if negB s then (-(rdU (tailB s) true).1, (rdU (tailB s) true).2) else rdU s false
theorem rdU_n {d : ByteArray} {big : Bool} (h : d.size = 0 ∨ 18 < d.size ∨ (bAt d 0 = 48 ∧ (1 < d.size ∨ big = true))) : rdU d big = (0, false) := by rw [rdU, if_pos h]
theorem rdU_d {d : ByteArray} {big : Bool} (h : allDig d = false) : rdU d big = (0, false) := by
  rw [rdU, h]
  split <;> rfl
theorem rdU_y {d : ByteArray} {big : Bool} (h : ¬ (d.size = 0 ∨ 18 < d.size ∨ (bAt d 0 = 48 ∧ (1 < d.size ∨ big = true)))) (h2 : allDig d = true) : rdU d big = (valB d d.size, true) := by rw [rdU, if_neg h, if_pos h2]
/-- The reference's number without a sign, and with one. -/
def vlF (s : ByteArray) : Int × Bool :=
  if s.size < 1 ∨ 13 < s.size then (0, false) else if allDig s then (valB s s.size, decide (decI (valB s s.size) = s)) else (0, false)
def sgF (s : ByteArray) : Int × Bool := if negB s then (-(vlF (tailB s)).1, (vlF (tailB s)).2 && decide (0 < (vlF (tailB s)).1)) else vlF s
theorem vlF_n {s : ByteArray} (h : s.size < 1 ∨ 13 < s.size) : vlF s = (0, false) := by rw [vlF, if_pos h]
theorem vlF_d {s : ByteArray} (h : allDig s = false) : vlF s = (0, false) := by
  rw [vlF, h]
  split <;> rfl
theorem vlF_y {s : ByteArray} (h : ¬ (s.size < 1 ∨ 13 < s.size)) (h2 : allDig s = true) : vlF s = (valB s s.size, decide (decI (valB s s.size) = s)) := by rw [vlF, if_neg h, if_pos h2]

/-! ### Which digits are the decimal text of their number -/
theorem bAt_dg {d : Int} (h0 : 0 ≤ d) (h1 : d < 10) : bAt (dgB d) 0 = 48 + d := by
  simp only [bAt, dgB, Array.getD_eq_getD_getElem?]
  simp
  omega
theorem bAt_app_l {a b : ByteArray} {i : Nat} (h : i < a.size) : bAt (a ++ b) i = bAt a i := by
  have h' : i < a.data.size := h
  simp only [bAt, Array.getD_eq_getD_getElem?, ByteArray.data_append]
  rw [Array.getElem?_append_left h']
theorem bAt_app_r {a b : ByteArray} {i : Nat} (h : a.size ≤ i) : bAt (a ++ b) i = bAt b (i - a.size) := by
  have h' : a.data.size ≤ i := h
  simp only [bAt, Array.getD_eq_getD_getElem?, ByteArray.data_append]
  rw [Array.getElem?_append_right h']
  rfl
theorem bAt_ext {a b : ByteArray} (hs : a.size = b.size) (h : ∀ i, i < a.size → bAt a i = bAt b i) : a = b := by
  apply ByteArray.ext
  apply Array.ext
  · exact hs
  · intro i h1 h2
    have k := h i h1
    simp only [bAt, Array.getD_eq_getD_getElem?, Array.getElem?_eq_getElem h1, Array.getElem?_eq_getElem h2, Option.getD_some] at k
    exact UInt8.toNat_inj.1 (by omega)
theorem bAt_extract {s : ByteArray} {a b i : Nat} (hb : b ≤ s.size) (h : i < b - a) : bAt (s.extract a b) i = bAt s (a + i) := by
  have hb' : b ≤ s.data.size := hb
  simp only [bAt, Array.getD_eq_getD_getElem?, ByteArray.data_extract]
  rw [Array.getElem?_extract_of_lt (by omega), Array.getElem?_eq_getElem (by omega)]
theorem decB_pos : ∀ n : Nat, 0 < (decB n).size := by
  intro n
  rcases Nat.lt_or_ge n 10 with h | h
  · rw [decB_small h, dgB_size]; omega
  · rw [decB_big (by omega), ByteArray.size_append, dgB_size]; omega
theorem decB_one {n : Nat} (h : 10 ≤ n) : 1 < (decB n).size := by
  have := decB_pos (n / 10)
  rw [decB_big (by omega), ByteArray.size_append, dgB_size]; omega
/-- The digits of a number from 1 on do not begin with a 0. -/
theorem decB_head : ∀ (k n : Nat), n < k → 1 ≤ n → bAt (decB n) 0 ≠ 48
  | 0, n, h, _ => by omega
  | k + 1, n, h, h1 => by
    rcases Nat.lt_or_ge n 10 with h2 | h2
    · rw [decB_small h2, bAt_dg (by omega) (by omega)]; omega
    · rw [decB_big (by omega), bAt_app_l (decB_pos _)]
      exact decB_head k (n / 10) (by omega) (by omega)
theorem decB_dig : ∀ (k n : Nat), n < k → ∀ j, j < (decB n).size → digAt (decB n) j = true
  | 0, n, h => by omega
  | k + 1, n, h => by
    intro j hj
    rcases Nat.lt_or_ge n 10 with h2 | h2
    · rw [decB_small h2] at hj ⊢
      rw [dgB_size] at hj
      obtain rfl : j = 0 := by omega
      rw [digAt, bAt_dg (by omega) (by omega)]
      exact inB_mk (by omega)
    · rw [decB_big (by omega)] at hj ⊢
      rw [ByteArray.size_append, dgB_size] at hj
      rcases Nat.lt_or_ge j (decB (n / 10)).size with h3 | h3
      · rw [digAt, bAt_app_l h3]
        exact decB_dig k (n / 10) (by omega) j h3
      · rw [digAt, bAt_app_r h3, show j - (decB (n / 10)).size = 0 by omega, bAt_dg (by omega) (by omega)]
        exact inB_mk (by omega)
theorem valB_app {a b : ByteArray} : ∀ {k : Nat}, k ≤ a.size → valB (a ++ b) k = valB a k
  | 0, _ => rfl
  | k + 1, h => by rw [valB, valB, valB_app (by omega), bAt_app_l (by omega)]
/-- The digits of a number write that number. -/
theorem valB_dec : ∀ (k n : Nat), n < k → valB (decB n) (decB n).size = n
  | 0, n, h => by omega
  | k + 1, n, h => by
    rcases Nat.lt_or_ge n 10 with h2 | h2
    · rw [decB_small h2, dgB_size, valB, valB, bAt_dg (by omega) (by omega)]; omega
    · rw [decB_big (by omega), ByteArray.size_append, dgB_size, valB, valB_app (Nat.le_refl _), valB_dec k (n / 10) (by omega), bAt_app_r (Nat.le_refl _), Nat.sub_self, bAt_dg (by omega) (by omega)]
      omega
/-- Digits that do not begin with a 0 are the decimal text of the number that they write. -/
theorem decI_val {d : ByteArray} (hd : ∀ j, j < d.size → digAt d j = true) (h0 : bAt d 0 ≠ 48) : ∀ k, 1 ≤ k → k ≤ d.size → 1 ≤ valB d k ∧ decI (valB d k) = d.extract 0 k
  | 0, h, _ => by omega
  | k + 1, _, hk => by
    have h2 := inB_t (hd k (by omega))
    have hx : d.extract 0 (k + 1) = d.extract 0 k ++ dgB (bAt d k - 48) := by
      apply bAt_ext
      · rw [ByteArray.size_append, dgB_size]; simp; omega
      · intro i hi
        have hi' : i < k + 1 := by simpa [Nat.min_eq_left hk] using hi
        have hsz : (d.extract 0 k).size = k := by simp; omega
        rw [bAt_extract hk (by omega)]
        rcases Nat.lt_or_ge i k with h3 | h3
        · rw [bAt_app_l (by omega), bAt_extract (by omega) (by omega)]
        · obtain rfl : i = k := by omega
          rw [bAt_app_r (by omega), hsz, Nat.sub_self, bAt_dg (by omega) (by omega)]
          simp only [Nat.zero_add]
          omega
    rcases Nat.eq_zero_or_pos k with hk0 | hk0
    · subst hk0
      rw [hx, valB, valB]
      refine ⟨by omega, ?_⟩
      rw [decI_small (by omega) (by omega)]
      simp
    · obtain ⟨i1, i2⟩ := decI_val hd h0 k hk0 (by omega)
      refine ⟨by rw [valB]; omega, ?_⟩
      rw [hx, valB, decI_big (by omega) (by omega), show (10 * valB d k + (bAt d k - 48)) / 10 = valB d k by omega, show (10 * valB d k + (bAt d k - 48)) % 10 = bAt d k - 48 by omega, i2]
theorem extract_all (d : ByteArray) : d.extract 0 d.size = d := by simp
/-- Digits that begin with a 0 and are more than one are no decimal text. -/
theorem decI_lead {d : ByteArray} {n : Int} (hn : 0 ≤ n) (h : decI n = d) (h0 : bAt d 0 = 48) : d.size ≤ 1 := by
  rcases Int.lt_or_le n 10 with h1 | h1
  · rw [← h, decI_small hn h1, dgB_size]; omega
  · exfalso
    have := decB_head (n.toNat + 1) n.toNat (by omega) (by omega)
    rw [← h] at h0
    exact this h0
theorem canon {d : ByteArray} (h1 : 1 ≤ d.size) (hd : allDig d = true) : decI (valB d d.size) = d ↔ (bAt d 0 ≠ 48 ∨ d.size = 1) := by
  constructor
  · intro h
    by_cases h0 : bAt d 0 = 48
    · have := decI_lead (valB_bd fun j hj => allDig_get hd hj).1 h h0
      right; omega
    · exact .inl h0
  · intro h
    by_cases h0 : bAt d 0 = 48
    · have hs : d.size = 1 := by omega
      rw [hs, valB, valB, h0]
      rw [decI_small (by omega) (by omega)]
      apply bAt_ext
      · rw [dgB_size, hs]
      · intro i hi
        rw [dgB_size] at hi
        obtain rfl : i = 0 := by omega
        rw [bAt_dg (by omega) (by omega), h0]
        rfl
    · have := (decI_val (fun j hj => allDig_get hd hj) h0 d.size h1 (Nat.le_refl _)).2
      rw [this, extract_all]
/-- A number whose first digit is not 0 is great if its digits are many. -/
theorem valB_great {d : ByteArray} (hd : ∀ j, j < d.size → digAt d j = true) (h0 : bAt d 0 ≠ 48) : ∀ k, k + 1 ≤ d.size → (10 : Int) ^ k ≤ valB d (k + 1)
  | 0, hk => by
    have := inB_t (hd 0 (by omega))
    rw [valB, valB]
    simp
    omega
  | k + 1, hk => by
    have i := valB_great hd h0 k (by omega)
    have := inB_t (hd (k + 1) (by omega))
    rw [valB, Int.pow_succ]
    omega
def isVal (n : Int) : Bool := inB n (-1000000000000) 1000000000000
/-- What the program and the reference make of a number's text that is a value. -/
def okR (s : ByteArray) : Bool := (rdF s).2 && isVal (rdF s).1
def okS (s : ByteArray) : Bool := (sgF s).2 && isVal (sgF s).1
theorem ok_uns {d : ByteArray} : ((rdU d false).2 && isVal (rdU d false).1) = ((vlF d).2 && isVal (vlF d).1) ∧ (((vlF d).2 && isVal (vlF d).1) = true → (rdU d false).1 = (vlF d).1) := by
  rcases hd : allDig d with _ | _
  · rw [rdU_d hd, vlF_d hd]
    exact ⟨rfl, fun _ => rfl⟩
  by_cases h0 : d.size = 0
  · rw [rdU_n (.inl h0), vlF_n (.inl (by omega))]
    exact ⟨rfl, fun _ => rfl⟩
  by_cases h18 : 18 < d.size
  · rw [rdU_n (.inr (.inl h18)), vlF_n (.inr (by omega))]
    exact ⟨rfl, fun _ => rfl⟩
  have hdd : ∀ j, j < d.size → digAt d j = true := fun j hj => allDig_get hd hj
  by_cases hz : bAt d 0 = 48 ∧ 1 < d.size
  · rw [rdU_n (.inr (.inr ⟨hz.1, .inl hz.2⟩))]
    by_cases h13 : 13 < d.size
    · rw [vlF_n (.inr h13)]
      exact ⟨rfl, fun _ => rfl⟩
    · rw [vlF_y (by omega) hd]
      have hc : decide (decI (valB d d.size) = d) = false := decide_eq_false (fun h => by
        rcases (canon (by omega) hd).1 h with k | k
        · exact k hz.1
        · omega)
      rw [hc]
      exact ⟨rfl, fun h => by simp at h⟩
  · rw [rdU_y (fun h => by rcases h with h | h | ⟨h, h2 | h2⟩; exact h0 h; exact h18 h; exact hz ⟨h, h2⟩; cases h2) hd]
    by_cases h13 : 13 < d.size
    · rw [vlF_n (.inr h13)]
      have h48 : bAt d 0 ≠ 48 := fun h => hz ⟨h, by omega⟩
      have g := valB_great hdd h48 (d.size - 1) (by omega)
      have g2 := pow_bd (show 13 ≤ d.size - 1 by omega)
      rw [show d.size - 1 + 1 = d.size by omega] at g
      have hv : isVal (valB d d.size) = false := inB_no (by omega)
      rw [hv]
      exact ⟨rfl, fun h => by simp at h⟩
    · rw [vlF_y (by omega) hd]
      have hc : decide (decI (valB d d.size) = d) = true := decide_eq_true ((canon (by omega) hd).2 (by
        by_cases h48 : bAt d 0 = 48
        · right; have : ¬ 1 < d.size := fun k => hz ⟨h48, k⟩; omega
        · exact .inl h48))
      rw [hc]
      exact ⟨rfl, fun _ => rfl⟩
theorem isVal_neg (n : Int) : isVal (-n) = isVal n := by
  unfold isVal
  rcases h : inB n (-1000000000000) 1000000000000 with _ | _
  · exact inB_no (by have := inB_f h; omega)
  · exact inB_mk (by have := inB_t h; omega)
theorem ok_same (s : ByteArray) : okR s = okS s ∧ (okS s = true → (rdF s).1 = (sgF s).1) := by
  unfold okR okS rdF sgF
  rcases hn : negB s with _ | _
  · exact ok_uns
  · simp only [if_true]
    rw [isVal_neg, isVal_neg]
    generalize tailB s = d
    obtain ⟨u1, u2⟩ := ok_uns (d := d)
    -- behind a minus sign a lone 0 is refused on both sides
    by_cases hz : d.size = 1 ∧ bAt d 0 = 48
    · have hr : rdU d true = (0, false) := rdU_n (.inr (.inr ⟨hz.2, .inr rfl⟩))
      rw [hr]
      have hv : ((vlF d).2 && decide (0 < (vlF d).1)) = false := by
        have e : (vlF d).1 = 0 := by
          unfold vlF
          split
          · rfl
          · split
            · show valB d d.size = 0
              rw [hz.1, valB, valB, hz.2]; rfl
            · rfl
        rw [e]; simp
      rw [hv]
      exact ⟨rfl, fun h => by simp at h⟩
    · have hr : rdU d true = rdU d false := by
        unfold rdU
        by_cases h48 : bAt d 0 = 48
        · by_cases h1 : 1 < d.size
          · simp [h48, h1]
          · have : d.size = 0 := by
              have := hz
              omega
            simp [this]
        · simp [h48]
      rw [hr]
      -- a number above 0
      have hp : ((vlF d).2 && isVal (vlF d).1) = true → 0 < (vlF d).1 := by
        intro h
        rcases hd : allDig d with _ | _
        · rw [vlF_d hd] at h; simp at h
        by_cases hb : d.size < 1 ∨ 13 < d.size
        · rw [vlF_n hb] at h; simp at h
        rw [vlF_y hb hd] at h ⊢
        simp only [Bool.and_eq_true, decide_eq_true_eq] at h
        have h48 : bAt d 0 ≠ 48 := by
          rcases (canon (by omega) hd).1 h.1 with k | k
          · exact k
          · intro k2; exact hz ⟨k, k2⟩
        have := (decI_val (fun j hj => allDig_get hd hj) h48 d.size (by omega) (Nat.le_refl _)).1
        show 0 < valB d d.size
        omega
      constructor
      · rw [u1]
        rcases h : ((vlF d).2 && isVal (vlF d).1) with _ | _
        · rcases h2 : (vlF d).2 with _ | _
          · simp
          · rw [h2] at h
            simp only [Bool.true_and] at h
            simp [h]
        · have := hp h
          simp only [Bool.and_eq_true] at h
          simp [h.1, h.2, this]
      · intro h
        simp only [Bool.and_eq_true] at h
        rw [u2 (by simp [h.1.1, h.2])]

end Go.Proofs.Ytpejbmfapdocaaa
