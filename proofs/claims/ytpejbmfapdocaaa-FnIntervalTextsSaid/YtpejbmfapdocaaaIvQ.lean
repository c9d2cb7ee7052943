/- Texts of intervals taken apart. Conditions: those that each theorem names. -/
import Derived.Test.YtpejbmfapdocaaaIvS
import Derived.Test.YtpejbmfapdocaaaSplit
namespace Go.Proofs.Ytpejbmfapdocaaa
open Go.RowKit

theorem numB_nodot {n b : Int} (h : b ≠ 45) (hb : b < 48) : ∀ k, k < (numB n).size → bAt (numB n) k ≠ b := by
  intro k hk e
  have hd : ∀ (m : Int) (j : Nat), j < (decI m).size → 48 ≤ bAt (decI m) j := fun m j hj => (inB_t (allDig_get decI_dig hj)).1
  rcases Int.lt_or_le n 0 with h0 | h0
  · rw [numB_n h0] at hk e
    rcases Nat.lt_or_ge k 1 with h1 | h1
    · rw [bAt_app_l (by rw [minus_size]; exact h1), show k = 0 by omega, bAt_minus] at e
      omega
    · rw [bAt_app_r (by rw [minus_size]; exact h1), minus_size] at e
      rw [ByteArray.size_append, minus_size] at hk
      have := hd (-n) (k - 1) (by omega)
      omega
  · rw [numB_p h0] at hk e
    have := hd n k hk
    omega
theorem spl_skip {s : ByteArray} {b : Int} {i : Nat} : ∀ d, (∀ k, i ≤ k → k < i + d → bAt s k ≠ b) → spl s b (i + d) = spl s b i
  | 0, _ => rfl
  | d + 1, h => by
    rw [← Nat.add_assoc, spl, if_neg (h (i + d) (by omega) (by omega))]
    exact spl_skip d (fun k h1 h2 => h k h1 (by omega))
theorem spl_to {s : ByteArray} {b : Int} {i j : Nat} (hij : i ≤ j) (h : ∀ k, i ≤ k → k < j → bAt s k ≠ b) : spl s b j = spl s b i := by
  have := spl_skip (s := s) (b := b) (i := i) (j - i) (fun k h1 h2 => h k h1 (by omega))
  rwa [show i + (j - i) = j by omega] at this
theorem split_none {s : ByteArray} {b : Int} (h : ∀ k, k < s.size → bAt s k ≠ b) : splitB s b = [s] := by
  rw [splitB, spl_to (Nat.zero_le _) (fun k _ hk => h k hk)]
  simp [spl]
theorem dots_size : dots.size = 2 := rfl
theorem ivB_size {a b : Int} (k : isIv a b = true) : (ivB a b).size ≤ 44 := by
  obtain ⟨k1, k2, k3⟩ := isIv_t k
  have s1 := numB_size (n := a) (by omega)
  have s2 := numB_size (n := b) (by omega)
  unfold ivB
  split
  · omega
  · rw [ByteArray.size_append, ByteArray.size_append, dots_size]; omega
/-- The text of an interval with two ends. -/
theorem iv_cut {x y : ByteArray} (hx : ∀ k, k < x.size → bAt x k ≠ 46) (hy : ∀ k, k < y.size → bAt y k ≠ 46) : (∀ k, k < x.size → bAt (x ++ dots ++ y) k ≠ 46) ∧ bAt (x ++ dots ++ y) x.size = 46 ∧ bAt (x ++ dots ++ y) (x.size + 1) = 46 ∧
    (x ++ dots ++ y).size = x.size + 2 + y.size ∧ (x ++ dots ++ y).extract 0 x.size = x ∧ (x ++ dots ++ y).extract (x.size + 2) (x.size + 2 + y.size) = y ∧ splitB (x ++ dots ++ y) 46 = [x, ByteArray.empty, y] := by
  have hz : (x ++ dots ++ y).size = x.size + 2 + y.size := by rw [ByteArray.size_append, ByteArray.size_append, dots_size]
  have a1 : ∀ k, k < x.size → bAt (x ++ dots ++ y) k ≠ 46 := fun k hk => by
    rw [ByteArray.append_assoc, bAt_app_l hk]
    exact hx k hk
  have a2 : bAt (x ++ dots ++ y) x.size = 46 := by
    rw [bAt_app_l (by rw [ByteArray.size_append, dots_size]; omega), bAt_app_r (Nat.le_refl _), Nat.sub_self]; rfl
  have a3 : bAt (x ++ dots ++ y) (x.size + 1) = 46 := by
    rw [bAt_app_l (by rw [ByteArray.size_append, dots_size]; omega), bAt_app_r (by omega), show x.size + 1 - x.size = 1 by omega]; rfl
  have a4 : ∀ k, x.size + 2 ≤ k → k < (x ++ dots ++ y).size → bAt (x ++ dots ++ y) k ≠ 46 := fun k h1 h2 => by
    rw [bAt_app_r (by rw [ByteArray.size_append, dots_size]; exact h1)]
    refine hy _ ?_
    rw [ByteArray.size_append, dots_size]
    omega
  have a5 : (x ++ dots ++ y).extract 0 x.size = x := by rw [ByteArray.append_assoc]; exact ext_app_l rfl
  have a6 : (x ++ dots ++ y).extract (x.size + 2) (x ++ dots ++ y).size = y := ext_app_r (by rw [ByteArray.size_append, dots_size])
  refine ⟨a1, a2, a3, hz, a5, by rw [← hz]; exact a6, ?_⟩
  have e0 : spl (x ++ dots ++ y) 46 x.size = ([], 0) := by rw [spl_to (i := 0) (Nat.zero_le _) (fun k _ h => a1 k h)]; rfl
  have e1 : spl (x ++ dots ++ y) 46 (x.size + 1) = ([x], x.size + 1) := by
    rw [spl, if_pos a2, e0, a5]; rfl
  have e2 : spl (x ++ dots ++ y) 46 (x.size + 2) = ([x, ByteArray.empty], x.size + 2) := by
    rw [spl, if_pos a3, e1]
    have : (x ++ dots ++ y).extract (x.size + 1) (x.size + 1) = ByteArray.empty := ByteArray.ext (by simp)
    simp only [this]
    rfl
  rw [splitB, spl_to (i := x.size + 2) (by omega) (fun k h1 h2 => a4 k h1 h2), e2]
  simp only [a6]
  rfl

end Go.Proofs.Ytpejbmfapdocaaa
