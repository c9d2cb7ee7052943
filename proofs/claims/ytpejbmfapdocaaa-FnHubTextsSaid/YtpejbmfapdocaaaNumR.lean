/- Decimal texts and measures are read back: plain facts on texts. Conditions: those that each theorem names. -/
import Derived.Test.YtpejbmfapdocaaaMes
import Derived.Test.YtpejbmfapdocaaaRd
namespace Go.Proofs.Ytpejbmfapdocaaa
open Go.RowKit

theorem decB_size1 : ∀ (k n : Nat), 1 ≤ k → n < 10 ^ k → (decB n).size ≤ k
  | 0, n, h, _ => by omega
  | k + 1, n, _, h => by
    rcases Nat.lt_or_ge n 10 with h1 | h1
    · rw [decB_small h1, dgB_size]; omega
    · have hk : 1 ≤ k := by
        rcases Nat.eq_zero_or_pos k with e | e
        · subst e; omega
        · exact e
      have h2 := decB_size1 k (n / 10) hk (by rw [Nat.pow_succ] at h; omega)
      rw [decB_big (by omega), ByteArray.size_append, dgB_size]; omega
theorem decI_size13 {n : Int} (h1 : n ≤ 1000000000000) : (decI n).size ≤ 13 := decB_size1 13 _ (by omega) (by omega)
theorem decI_dig {n : Int} : allDig (decI n) = true := allDig_t (decB_dig _ _ (Nat.lt_succ_self _))
theorem decI_pos (n : Int) : 0 < (decI n).size := decB_pos _
theorem decI_val2 {n : Int} (h : 0 ≤ n) : valB (decI n) (decI n).size = n := by
  have := valB_dec (n.toNat + 1) n.toNat (Nat.lt_succ_self _)
  unfold decI
  omega
theorem decI_head0 (n : Int) : 48 ≤ bAt (decI n) 0 ∧ bAt (decI n) 0 ≤ 57 := inB_t (allDig_get decI_dig (decI_pos n))
theorem decI_head {n : Int} (h : 1 ≤ n) : bAt (decI n) 0 ≠ 48 := decB_head (n.toNat + 1) n.toNat (Nat.lt_succ_self _) (by omega)
theorem neg_dec (n : Int) : negB (decI n) = false := by
  have := decI_head0 n
  simp only [negB, Bool.and_eq_false_iff, decide_eq_false_iff_not]
  omega
theorem minus_size : minus.size = 1 := rfl
theorem bAt_minus : bAt minus 0 = 45 := rfl
theorem neg_minus (d : ByteArray) : negB (minus ++ d) = true := by
  simp only [negB, Bool.and_eq_true, decide_eq_true_eq, ByteArray.size_append, minus_size]
  refine ⟨by omega, ?_⟩
  rw [bAt_app_l (by rw [minus_size]; omega), bAt_minus]
theorem ext_app_r {a b : ByteArray} {n : Nat} (hn : a.size = n) : (a ++ b).extract n (a ++ b).size = b := by
  apply bAt_ext
  · simp [ByteArray.size_append]; omega
  · intro i hi
    have hi' : i < (a ++ b).size - n := by simpa using hi
    rw [bAt_extract (Nat.le_refl _) hi', bAt_app_r (by omega)]
    congr 1
    omega
theorem ext_app_l {a b : ByteArray} {n : Nat} (hn : a.size = n) : (a ++ b).extract 0 n = a := by
  apply bAt_ext
  · simp [ByteArray.size_append]; omega
  · intro i hi
    have hi' : i < n := by
      have : ((a ++ b).extract 0 n).size = n := by simp [ByteArray.size_append]; omega
      omega
    rw [bAt_extract (by rw [ByteArray.size_append]; omega) (by omega), Nat.zero_add, bAt_app_l (by omega)]
theorem tail_minus (d : ByteArray) : tailB (minus ++ d) = d := ext_app_r minus_size
theorem rdU_dec {n : Int} (h0 : 0 ≤ n) (h1 : n ≤ 1000000000000) (big : Bool) (hb : n = 0 → big = false) : rdU (decI n) big = (n, true) := by
  have s1 := decI_size13 h1
  have s2 := decI_pos n
  rw [rdU_y (fun h => by
    rcases h with h | h | ⟨h, h2⟩
    · omega
    · omega
    · rcases Int.lt_or_le 0 n with h3 | h3
      · exact decI_head (by omega) h
      · have e : n = 0 := by omega
        rcases h2 with h2 | h2
        · subst e
          rw [decI_small (by omega) (by omega), dgB_size] at h2
          omega
        · rw [hb e] at h2; cases h2) decI_dig, decI_val2 h0]
theorem vlF_dec {n : Int} (h0 : 0 ≤ n) (h1 : n ≤ 1000000000000) : vlF (decI n) = (n, true) := by
  have s1 := decI_size13 h1
  have s2 := decI_pos n
  rw [vlF_y (by omega) decI_dig, decI_val2 h0]
  simp
theorem rdF_num {n : Int} (h : isVal n = true) : rdF (numB n) = (n, true) := by
  have hb := inB_t h
  rcases Int.lt_or_le n 0 with h0 | h0
  · rw [numB_n h0, rdF_m (neg_minus _) (tail_minus _), rdU_dec (by omega) (by omega) true (by omega)]
    simp
  · rw [numB_p h0, rdF_n (neg_dec n), rdU_dec h0 hb.2 false (fun _ => rfl)]
theorem sgF_num {n : Int} (h : isVal n = true) : sgF (numB n) = (n, true) := by
  have hb := inB_t h
  rcases Int.lt_or_le n 0 with h0 | h0
  · rw [numB_n h0, sgF_m (neg_minus _) (tail_minus _), vlF_dec (by omega) (by omega)]
    simp
    omega
  · rw [numB_p h0, sgF_n (neg_dec n), vlF_dec h0 hb.2]

/-! ### The parts of a measure's text -/
theorem dot_size : dot.size = 1 := rfl
theorem mesU_parts {u : Int} (h0 : 0 ≤ u) (h1 : u ≤ 1000000000000) : ∃ n : Nat, (decI (u / 10)).size = n ∧ (mesU u).size = n + 2 ∧ 1 ≤ n ∧ n ≤ 13 ∧ bAt (mesU u) n = 46 ∧ (mesU u).extract 0 n = decI (u / 10) ∧ (mesU u).extract (n + 1) (n + 2) = decI (u % 10) ∧
    48 ≤ bAt (mesU u) 0 ∧ bAt (mesU u) 0 ≤ 57 := by
  refine ⟨_, rfl, mesU_size, decI_pos _, decI_size13 (by omega), ?_, ?_, ?_, ?_⟩
  · rw [mesU, bAt_app_l (by rw [ByteArray.size_append, dot_size]; omega), bAt_app_r (Nat.le_refl _), Nat.sub_self]; rfl
  · rw [mesU, ByteArray.append_assoc]
    exact ext_app_l rfl
  · have hs : (decI (u / 10) ++ dot).size = (decI (u / 10)).size + 1 := by rw [ByteArray.size_append, dot_size]
    have he : (mesU u).size = (decI (u / 10)).size + 2 := mesU_size
    rw [← he]
    exact ext_app_r hs
  · have := decI_head0 (u / 10)
    rw [mesU, ByteArray.append_assoc, bAt_app_l (decI_pos _)]
    exact this
/-- The digits of a measure, its dot left out: a 0 stands ahead of a number below 10. -/
def mdg (u : Int) : ByteArray := decI (u / 10) ++ decI (u % 10)
theorem mdg_big {u : Int} (h : 10 ≤ u) : mdg u = decI u := by
  rw [decI_big (by omega) (by omega), mdg, decI_small (n := u % 10) (by omega) (by omega)]
theorem mdg_small {u : Int} (h0 : 0 ≤ u) (h : u < 10) : mdg u = dgB 0 ++ decI u := by
  rw [mdg, show u / 10 = 0 by omega, show u % 10 = u by omega, decI_small (n := 0) (by omega) (by omega)]
theorem mdg_size {u : Int} (h1 : u ≤ 1000000000000) : 1 ≤ (mdg u).size ∧ (mdg u).size ≤ 26 := by
  have s1 := decI_size13 (n := u / 10) (by omega)
  have s2 := decI_size13 (n := u % 10) (by omega)
  have s3 := decI_pos (u / 10)
  rw [mdg, ByteArray.size_append]
  omega
theorem mdg_head {u : Int} : 48 ≤ bAt (mdg u) 0 ∧ bAt (mdg u) 0 ≤ 57 := by
  rw [mdg, bAt_app_l (decI_pos _)]
  exact decI_head0 _
/-- What the program reads out of a measure's text: the sign and the digits. -/
theorem mes_cut {v : Int} (h : isVal v = true) : ∃ (n : Nat) (u : Int), (mesB v).size = n + 2 ∧ 1 ≤ n ∧ n ≤ 14 ∧ bAt (mesB v) n = 46 ∧ 0 ≤ u ∧ u ≤ 1000000000000 ∧
    ((0 ≤ v ∧ u = v ∧ (mesB v).extract 0 n ++ (mesB v).extract (n + 1) (n + 2) = mdg u ∧ bAt (mesB v) 0 ≠ 45 ∧ (mesB v).extract 0 n = decI (u / 10) ∧ (mesB v).extract (n + 1) (n + 2) = decI (u % 10)) ∨
     (v < 0 ∧ u = -v ∧ (mesB v).extract 0 n ++ (mesB v).extract (n + 1) (n + 2) = minus ++ mdg u ∧ bAt (mesB v) 0 = 45 ∧ 2 ≤ n ∧ (mesB v).extract 1 n = decI (u / 10) ∧ (mesB v).extract (n + 1) (n + 2) = decI (u % 10))) := by
  have hb := inB_t h
  rcases Int.lt_or_le v 0 with h0 | h0
  · obtain ⟨n, e1, e2, e3, e4, e5, e6, e7, e8, e9⟩ := mesU_parts (u := -v) (by omega) (by omega)
    refine ⟨n + 1, -v, by rw [mesB_n h0, ByteArray.size_append, minus_size]; omega, by omega, by omega, ?_, by omega, by omega, .inr ⟨h0, rfl, ?_, ?_, by omega, ?_, ?_⟩⟩
    · rw [mesB_n h0, bAt_app_r (by rw [minus_size]; omega), minus_size, Nat.add_sub_cancel]; exact e5
    · have k1 : (mesB v).extract 0 (n + 1) = minus ++ decI (-v / 10) := by
        rw [mesB_n h0, mesU, ← ByteArray.append_assoc, ← ByteArray.append_assoc, ByteArray.append_assoc]
        exact ext_app_l (by rw [ByteArray.size_append, minus_size]; omega)
      have k2 : (mesB v).extract (n + 1 + 1) (n + 1 + 2) = decI (-v % 10) := by
        have hs : (mesB v).size = n + 1 + 2 := by rw [mesB_n h0, ByteArray.size_append, minus_size]; omega
        rw [← hs, mesB_n h0, mesU, ← ByteArray.append_assoc]
        exact ext_app_r (by rw [ByteArray.size_append, ByteArray.size_append, minus_size, dot_size]; omega)
      rw [k1, k2, mdg, ByteArray.append_assoc]
    · rw [mesB_n h0, bAt_app_l (by rw [minus_size]; omega), bAt_minus]
    · apply bAt_ext
      · simp [mesB_n h0, ByteArray.size_append, minus_size]; omega
      · intro i hi
        have hsz : (mesB v).size = n + 3 := by rw [mesB_n h0, ByteArray.size_append, minus_size]; omega
        have hi' : i < n := by simp [hsz] at hi; omega
        rw [bAt_extract (by omega) (by omega), mesB_n h0, bAt_app_r (by rw [minus_size]; omega), minus_size, Nat.add_sub_cancel_left, ← e6, bAt_extract (by omega) (by omega), Nat.zero_add]
    · have hs : (mesB v).size = n + 1 + 2 := by rw [mesB_n h0, ByteArray.size_append, minus_size]; omega
      rw [← hs, mesB_n h0, mesU, ← ByteArray.append_assoc]
      exact ext_app_r (by rw [ByteArray.size_append, ByteArray.size_append, minus_size, dot_size]; omega)
  · obtain ⟨n, e1, e2, e3, e4, e5, e6, e7, e8, e9⟩ := mesU_parts (u := v) h0 hb.2
    rw [mesB_p h0]
    exact ⟨n, v, e2, e3, by omega, e5, h0, hb.2, .inl ⟨h0, rfl, by rw [e6, e7, mdg], by omega, e6, e7⟩⟩

end Go.Proofs.Ytpejbmfapdocaaa
