/- Lists' texts: written and read again, read and written again; lists of numbers compared. Conditions: those that each theorem names. -/
import Derived.Test.YtpejbmfapdocaaaRn
import Derived.Test.YtpejbmfapdocaaaNumR
import Derived.Test.YtpejbmfapdocaaaJn
namespace Go.Proofs.Ytpejbmfapdocaaa
open Go.RowKit

theorem comma_sep : comma = sepB 44 := rfl
theorem num_no {n : Int} : ∀ k, k < (numB n).size → bAt (numB n) k ≠ 44 := by
  intro k hk e
  have hd : ∀ (m : Int) (j : Nat), j < (decI m).size → 48 ≤ bAt (decI m) j := fun m j hj => (inB_t (allDig_get decI_dig hj)).1
  rcases Int.lt_or_le n 0 with h0 | h0
  · rw [numB_n h0] at hk e
    rcases Nat.lt_or_ge k 1 with h1 | h1
    · rw [bAt_app_l (by rw [minus_size]; exact h1), show k = 0 by omega, bAt_minus] at e
      omega
    · rw [bAt_app_r (by rw [minus_size]; exact h1), minus_size] at e
      rw [ByteArray.size_append, minus_size] at hk
      have := hd (-n) (k - 1) (by omega)
      omega
  · rw [numB_p h0] at hk e
    have := hd n k hk
    omega
theorem vlF_bk {s : ByteArray} (h : (vlF s).2 = true) : decI (vlF s).1 = s := by
  unfold vlF at *
  split at h
  · simp at h
  · rename_i h1
    rw [if_neg h1]
    split at h
    · rename_i h2
      rw [if_pos h2]
      exact of_decide_eq_true h
    · simp at h
theorem neg_tail {p : ByteArray} (h : negB p = true) : minus ++ tailB p = p := by
  simp only [negB, Bool.and_eq_true, decide_eq_true_eq] at h
  have hz : (tailB p).size = p.size - 1 := tailB_size p
  refine bAt_ext (by rw [ByteArray.size_append, minus_size, hz]; omega) (fun i hi => ?_)
  rw [ByteArray.size_append, minus_size, hz] at hi
  rcases Nat.eq_zero_or_pos i with h0 | h0
  · subst h0
    rw [bAt_app_l (by rw [minus_size]; omega), bAt_minus, h.2]
  · rw [bAt_app_r (by rw [minus_size]; omega), minus_size, tailB, bAt_extract (Nat.le_refl _) (by omega)]
    congr 1
    omega
theorem sgF_back {p : ByteArray} (h : (sgF p).2 = true) : numB (sgF p).1 = p := by
  rcases hn : negB p with _ | _
  · rw [sgF_n hn] at h ⊢
    rw [numB_p (vlF_le p).1, vlF_bk h]
  · rw [sgF_m hn rfl] at h ⊢
    simp only [Bool.and_eq_true, decide_eq_true_eq] at h ⊢
    rw [numB_n (by omega), Int.neg_neg, vlF_bk h.1, neg_tail hn]
theorem sgF_dash : (sgF dash).2 = false := by decide
theorem split_dash : splitB dash 44 = [dash] := by decide
theorem ltF_code (xs : List Int) : (ltF xs).2 = 0 ∨ (ltF xs).2 = 2 ∨ (ltF xs).2 = 3 := by
  unfold ltF
  split
  · split
    · exact .inr (.inr rfl)
    · split
      · exact .inl rfl
      · exact .inl rfl
  · exact .inr (.inl rfl)
theorem nums_nts : ∀ {xs : List Int}, (∀ x ∈ xs, isVal x = true) → nums (nts xs) = xs
  | [], _ => rfl
  | x :: xs, h => by
    have h1 := sgF_num (h x (by simp))
    have ih := nums_nts (xs := xs) (fun y hy => h y (by simp [hy]))
    simp only [nums, nts, List.map_cons, h1] at ih ⊢
    rw [ih]
theorem nts_nums : ∀ {ps : List ByteArray}, (∀ p ∈ ps, (sgF p).2 = true) → nts (nums ps) = ps
  | [], _ => rfl
  | p :: ps, h => by
    have h1 := sgF_back (h p (by simp))
    have ih := nts_nums (ps := ps) (fun y hy => h y (by simp [hy]))
    simp only [nums, nts, List.map_cons, h1] at ih ⊢
    rw [ih]
theorem allV_mem {xs : List Int} (h : allV xs = true) : ∀ x ∈ xs, isVal x = true := fun x hx => by
  obtain ⟨j, hj, rfl⟩ := List.getElem_of_mem hx
  have := allV_get h hj
  rwa [List.getD_eq_getElem?_getD, List.getElem?_eq_getElem hj] at this
/-- Numbers, written and read. -/
theorem numbers_read {xs : List Int} {t : ByteArray} (h : ltF xs = (t, 0)) : rlF t = (xs, 0) ∧ xs.length ≤ 60 ∧ t.size ≤ 2000 := by
  rcases k1 : allV xs with _ | _
  · rw [ltF_n k1] at h; simp at h
  by_cases k2 : 60 < xs.length
  · rw [ltF_l k1 k2] at h; simp at h
  by_cases k3 : xs.length = 0
  · rw [ltF_0 k1 k3] at h
    obtain ⟨rfl, _⟩ := Prod.mk.inj h
    have : xs = [] := List.eq_nil_of_length_eq_zero k3
    subst this
    exact ⟨rlF_d rfl, by simp, by decide⟩
  · rw [ltF_y k1 k2 k3] at h
    obtain ⟨h, _⟩ := Prod.mk.inj h
    have hv := allV_mem k1
    have hs : splitB t 44 = nts xs := by
      rw [← h, comma_sep, ← nts_len xs]
      refine split_join (by omega) (by rw [nts_len]; omega) (fun j hj => ?_)
      rw [nts_len] at hj
      rw [nts_at hj]
      exact num_no
    have hok : ∀ j, j < (nts xs).length → okS (sAt (nts xs) j) = true := fun j hj => by
      rw [nts_len] at hj
      have h1 := sgF_num (allV_get k1 hj)
      rw [nts_at hj, okS, h1, allV_get k1 hj]
      rfl
    have hd : t ≠ dash := fun e => by
      rw [e, split_dash] at hs
      have := hok 0 (by rw [← hs]; simp)
      rw [← hs, show sAt [dash] 0 = dash from rfl, okS, sgF_dash] at this
      cases this
    refine ⟨by rw [rlF_y hd (by rw [hs]; exact allN_t hok) (by rw [hs, nts_len]; exact k2), hs, nums_nts hv], by omega, ?_⟩
    have := joinB_size (b := comma) (by decide) (nts_size k1) xs.length
    rw [h] at this
    omega
/-- Numbers, read and written. -/
theorem numbers_back {s : ByteArray} {xs : List Int} (h : rlF s = (xs, 0)) : ltF xs = (s, 0) := by
  by_cases k1 : s = dash
  · rw [rlF_d k1] at h
    obtain ⟨rfl, _⟩ := Prod.mk.inj h
    rw [k1]
    exact ltF_0 rfl rfl
  · rcases k2 : allN (splitB s 44) with _ | _
    · rw [rlF_n k1 (.inl k2)] at h; simp at h
    by_cases k3 : 60 < (splitB s 44).length
    · rw [rlF_n k1 (.inr k3)] at h; simp at h
    rw [rlF_y k1 k2 k3] at h
    obtain ⟨rfl, _⟩ := Prod.mk.inj h
    have hl := (splitB_len s 44).1
    have hall := allN_s (ps := splitB s 44)
    rw [k2] at hall
    have hall2 := hall.symm
    rw [Bool.and_eq_true] at hall2
    have hm : ∀ p ∈ splitB s 44, (sgF p).2 = true := fun p hp => by
      obtain ⟨j, hj, rfl⟩ := List.getElem_of_mem hp
      have := allS_get hall2.1 hj
      rwa [sAt, List.getD_eq_getElem?_getD, List.getElem?_eq_getElem hj] at this
    rw [ltF_y hall2.2 (by rw [nums_len]; exact k3) (by rw [nums_len]; omega), nts_nums hm, nums_len, comma_sep, join_split (by omega)]
theorem rlF_code (s : ByteArray) : (rlF s).2 = 0 ∨ (rlF s).2 = 6 := by
  unfold rlF
  split
  · exact .inl rfl
  · split
    · exact .inl rfl
    · exact .inr rfl
set_option maxHeartbeats 1000000 in
theorem likeInts_same (A C : Option Addr) (c d : Nat) (xs : List Int) (w : World) (hl : xs.length ≤ 1048576) (ha : Rd w w.heap.size A (iv xs)) (hc : Rd w w.heap.size C (iv xs)) :
    Calls Try.prog 22 #[.slice A xs.length c, .slice C xs.length d] w fun e w' => e = .returned (.bool true) ∧ Below w.heap.size w w' := by
  have HA := Lib.hid ha
  have HC := Lib.hid hc
  clear ha hc
  go_enter Try.func22, Try.ntmps22
  go_wp2_with fail
  go_loopw [5] (fun s5 wr => ∃ k : Nat, k ≤ xs.length ∧ s5 = .int .i64 k ∧ Below w.heap.size w wr) (fun s5 _ => xs.length - (intOf s5).toNat)
  case atStart => exact ⟨0, Nat.zero_le _, rfl, by (repeat (first | with_reducible exact Below.refl _ _ | with_reducible assumption | ((with_reducible refine Bw.set ?_ ?_); rotate_left; focus omega) | ((with_reducible refine Bw.al ?_ ?_); rotate_left; focus (first | omega | (simp; done) | (simp; omega))) | with_reducible refine Below.drew ?_ | with_reducible refine Bw.dr ?_ _))⟩
  case round =>
    obtain ⟨k, hk, rfl, hb⟩ := hrel
    by_cases hlt : k < xs.length
    · obtain ⟨ad, rfl, h1⟩ := (HA.out.keep hb).int hlt
      obtain ⟨ae, rfl, h2⟩ := (HC.out.keep hb).int hlt
      generalize xs.getD k 0 = x at *
      go_wp2_with fail
      go_quiet (fail)
      go_wp2_with fail
      go_roundw
      case rel => exact ⟨k + 1, by omega, by go_num, by (repeat (first | with_reducible exact Below.refl _ _ | with_reducible assumption | ((with_reducible refine Bw.set ?_ ?_); rotate_left; focus omega) | ((with_reducible refine Bw.al ?_ ?_); rotate_left; focus (first | omega | (simp; done) | (simp; omega))) | with_reducible refine Below.drew ?_ | with_reducible refine Bw.dr ?_ _))⟩
      case measure => simp [intOf]; omega
    · obtain rfl : k = xs.length := by omega
      go_wp2_with fail
      go_ret
      exact ⟨rfl, by (repeat (first | with_reducible exact Below.refl _ _ | with_reducible assumption | ((with_reducible refine Bw.set ?_ ?_); rotate_left; focus omega) | ((with_reducible refine Bw.al ?_ ?_); rotate_left; focus (first | omega | (simp; done) | (simp; omega))) | with_reducible refine Below.drew ?_ | with_reducible refine Bw.dr ?_ _))⟩

end Go.Proofs.Ytpejbmfapdocaaa
