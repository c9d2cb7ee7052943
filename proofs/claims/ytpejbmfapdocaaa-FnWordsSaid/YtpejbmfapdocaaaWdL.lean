/- Words' texts: written and read again, read and written again; lists of texts compared. Conditions: those that each theorem names. -/
import Derived.Test.YtpejbmfapdocaaaRl
import Derived.Test.YtpejbmfapdocaaaJn
namespace Go.Proofs.Ytpejbmfapdocaaa
open Go.RowKit

theorem comma_sep : comma = sepB 44 := rfl
theorem word_no {p : ByteArray} (h : wordB p = true) : ∀ k, k < p.size → bAt p k ≠ 44 := fun k hk e => by
  rw [wordB, Bool.and_eq_true] at h
  have h1 := h.1
  simp only [lowB, List.all_eq_true, List.mem_range] at h1
  have h2 := h1 k hk
  simp only [lowAt, Bool.and_eq_true, decide_eq_true_eq] at h2
  omega
theorem wordB_dash : wordB dash = false := by decide
theorem split_dash : splitB dash 44 = [dash] := by decide
/-- Words, written and read. -/
theorem words_read {ss : List ByteArray} {t : ByteArray} (h : wtF ss = (t, 0)) : rwF t = (ss, 0) ∧ allW ss = true ∧ ss.length ≤ 60 ∧ t.size ≤ 2000 := by
  rcases k1 : allW ss with _ | _
  · rw [wtF_n k1] at h; simp at h
  by_cases k2 : 60 < ss.length
  · rw [wtF_l k1 k2] at h; simp at h
  by_cases k3 : ss.length = 0
  · rw [wtF_0 k1 k3] at h
    obtain ⟨rfl, _⟩ := Prod.mk.inj h
    have : ss = [] := List.eq_nil_of_length_eq_zero k3
    subst this
    exact ⟨rwF_d rfl, rfl, by simp, by decide⟩
  · rw [wtF_y k1 k2 k3] at h
    obtain ⟨h, _⟩ := Prod.mk.inj h
    have hs : splitB t 44 = ss := by
      rw [← h, comma_sep]
      exact split_join (by omega) (by omega) (fun j hj => word_no (allW_get k1 hj))
    have hd : t ≠ dash := fun e => by
      rw [e, split_dash] at hs
      rw [← hs] at k1
      have := allW_get k1 (j := 0) (by simp)
      rw [show sAt [dash] 0 = dash from rfl, wordB_dash] at this
      cases this
    refine ⟨by rw [rwF_y hd (by rw [hs]; exact k1) (by rw [hs]; exact k2), hs], rfl, by omega, ?_⟩
    have := joinB_size (b := comma) (by decide) (allW_size k1) ss.length
    rw [h] at this
    omega
/-- Words, read and written. -/
theorem words_back {s : ByteArray} {ss : List ByteArray} (h : rwF s = (ss, 0)) : wtF ss = (s, 0) := by
  by_cases k1 : s = dash
  · rw [rwF_d k1] at h
    obtain ⟨rfl, _⟩ := Prod.mk.inj h
    rw [k1]
    exact wtF_0 rfl rfl
  · rcases k2 : allW (splitB s 44) with _ | _
    · rw [rwF_n k1 (.inl k2)] at h; simp at h
    by_cases k3 : 60 < (splitB s 44).length
    · rw [rwF_n k1 (.inr k3)] at h; simp at h
    rw [rwF_y k1 k2 k3] at h
    obtain ⟨rfl, _⟩ := Prod.mk.inj h
    have hl := (splitB_len s 44).1
    rw [wtF_y k2 k3 (by omega), comma_sep, join_split (by omega)]
theorem rwF_code (s : ByteArray) : (rwF s).2 = 0 ∨ (rwF s).2 = 6 := by
  unfold rwF
  split
  · exact .inl rfl
  · split
    · exact .inl rfl
    · exact .inr rfl
theorem rwF_small (s : ByteArray) (k : Nat) : (sAt (rwF s).1 k).size ≤ s.size := by
  unfold rwF
  split
  · simp [sAt]
  · split
    · exact splitB_small s 44 k
    · simp [sAt]
theorem rwF_len (s : ByteArray) : (rwF s).1.length ≤ 60 := by
  unfold rwF
  split
  · simp
  · split
    · rename_i h
      rw [Bool.and_eq_true, decide_eq_true_eq] at h
      exact h.2
    · simp
set_option maxHeartbeats 1000000 in
theorem likeTexts_same (A C : Option Addr) (c d : Nat) (ss : List ByteArray) (w : World) (hl : ss.length ≤ 1048576) (ha : Rd w w.heap.size A (sv ss)) (hc : Rd w w.heap.size C (sv ss)) :
    Calls Try.prog 92 #[.slice A ss.length c, .slice C ss.length d] w fun e w' => e = .returned (.bool true) ∧ Below w.heap.size w w' := by
  have HA := Lib.hid ha
  have HC := Lib.hid hc
  clear ha hc
  go_enter Try.func92, Try.ntmps92
  go_wp2_with fail
  go_loopw [5] (fun s5 wr => ∃ k : Nat, k ≤ ss.length ∧ s5 = .int .i64 k ∧ Below w.heap.size w wr) (fun s5 _ => ss.length - (intOf s5).toNat)
  case atStart => exact ⟨0, Nat.zero_le _, rfl, by (repeat (first | with_reducible exact Below.refl _ _ | with_reducible assumption | ((with_reducible refine Bw.set ?_ ?_); rotate_left; focus omega) | ((with_reducible refine Bw.al ?_ ?_); rotate_left; focus (first | omega | (simp; done) | (simp; omega))) | with_reducible refine Below.drew ?_ | with_reducible refine Bw.dr ?_ _))⟩
  case round =>
    obtain ⟨k, hk, rfl, hb⟩ := hrel
    by_cases hlt : k < ss.length
    · obtain ⟨ad, rfl, h1⟩ := (HA.out.keep hb).str hlt
      obtain ⟨ae, rfl, h2⟩ := (HC.out.keep hb).str hlt
      generalize sAt ss k = x at *
      go_wp2_with fail
      go_quiet (fail)
      go_wp2_with fail
      go_roundw
      case rel => exact ⟨k + 1, by omega, by go_num, by (repeat (first | with_reducible exact Below.refl _ _ | with_reducible assumption | ((with_reducible refine Bw.set ?_ ?_); rotate_left; focus omega) | ((with_reducible refine Bw.al ?_ ?_); rotate_left; focus (first | omega | (simp; done) | (simp; omega))) | with_reducible refine Below.drew ?_ | with_reducible refine Bw.dr ?_ _))⟩
      case measure => simp [intOf]; omega
    · obtain rfl : k = ss.length := by omega
      go_wp2_with fail
      go_ret
      exact ⟨rfl, by (repeat (first | with_reducible exact Below.refl _ _ | with_reducible assumption | ((with_reducible refine Bw.set ?_ ?_); rotate_left; focus omega) | ((with_reducible refine Bw.al ?_ ?_); rotate_left; focus (first | omega | (simp; done) | (simp; omega))) | with_reducible refine Below.drew ?_ | with_reducible refine Bw.dr ?_ _))⟩

end Go.Proofs.Ytpejbmfapdocaaa
