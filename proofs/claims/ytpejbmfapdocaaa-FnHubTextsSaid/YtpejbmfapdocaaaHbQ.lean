/- Hubs read: the plain law. Conditions: those that each theorem names. -/
import Derived.Test.YtpejbmfapdocaaaHbS
import Derived.Test.YtpejbmfapdocaaaSplit
import Derived.Test.YtpejbmfapdocaaaRm
namespace Go.Proofs.Ytpejbmfapdocaaa
open Go.RowKit

theorem holes_val {n : Int} (h : holesB n = true) : isVal n = true := by
  have := holes_bd h
  exact inB_mk (by omega)
theorem rdU_nn (d : ByteArray) (b : Bool) : 0 ≤ (rdU d b).1 := by
  unfold rdU
  split
  · simp
  · split
    · rename_i h
      exact (valB_bd (fun j hj => allDig_get h hj)).1
    · simp
theorem rdF_neg_le {s : ByteArray} (h : negB s = true) : (rdF s).1 ≤ 0 := by
  rw [rdF_m h rfl]
  have := rdU_nn (tailB s) true
  simp only
  omega
theorem vlF_neg {s : ByteArray} (h : negB s = true) : vlF s = (0, false) := by
  simp only [negB, Bool.and_eq_true, decide_eq_true_eq] at h
  exact vlF_d (allDig_f h.1 (by rw [digAt, h.2]; rfl))
theorem hol_same (s : ByteArray) : ((rdF s).2 && holesB (rdF s).1) = ((vlF s).2 && holesB (vlF s).1) ∧ (((vlF s).2 && holesB (vlF s).1) = true → (rdF s).1 = (vlF s).1) := by
  rcases hn : negB s with _ | _
  · rw [rdF_n hn]
    obtain ⟨h1, h2⟩ := ok_uns (d := s)
    have key : ∀ x : Int × Bool, (x.2 && holesB x.1) = ((x.2 && isVal x.1) && holesB x.1) := fun x => by
      rcases hh : holesB x.1 with _ | _
      · simp
      · rw [holes_val hh]; simp
    rw [key, key (vlF s), h1]
    rcases hv : ((vlF s).2 && isVal (vlF s).1) with _ | _
    · simp
    · rw [h2 hv]; simp
  · have h1 := rdF_neg_le hn
    have h2 : holesB (rdF s).1 = false := by
      rw [Bool.eq_false_iff]
      intro k
      have := holes_bd k
      omega
    rw [vlF_neg hn, h2]
    simp

open Classical in
/-- A measure's text, read: the number, or 0 and false. -/
noncomputable def mdF (s : ByteArray) : Int × Bool := if h : ∃ v, isVal v = true ∧ mesB v = s then (Classical.choose h, true) else (0, false)
theorem mdF_cases (s : ByteArray) : (∃ v, isVal v = true ∧ mesB v = s ∧ mdF s = (v, true)) ∨ ((∀ v, isVal v = true → mesB v ≠ s) ∧ mdF s = (0, false)) := by
  by_cases h : ∃ v, isVal v = true ∧ mesB v = s
  · exact .inl ⟨Classical.choose h, (Classical.choose_spec h).1, (Classical.choose_spec h).2, by rw [mdF, dif_pos h]⟩
  · exact .inr ⟨fun v h1 h2 => h ⟨v, h1, h2⟩, by rw [mdF, dif_neg h]⟩
def mdC (b : Bool) : Int := if b then 0 else 6
theorem impl_readMeasure_md (s : ByteArray) (w : World) (hs : s.size ≤ 1048576) :
    Calls Try.prog 116 #[.string s] w fun e w' => e = .returned (.tuple #[.int .i64 (mdF s).1, .bool (mdF s).2]) ∧ Below w.heap.size w w' := by
  rcases mdF_cases s with ⟨v, h1, h2, h3⟩ | ⟨h1, h3⟩
  · rw [h3]; exact impl_readMeasure_y s v w h1 h2
  · rw [h3]; exact impl_readMeasure_n s w hs h1
theorem spec_ReadMeasure_md (s : ByteArray) (w : World) (hs : s.size ≤ 1048576) :
    Calls Try.prog 85 #[.string s] w fun e w' => e = .returned (.tuple #[.int .i64 (mdF s).1, .int .i64 (mdC (mdF s).2)]) ∧ Below w.heap.size w w' := by
  rcases mdF_cases s with ⟨v, h1, h2, h3⟩ | ⟨h1, h3⟩
  · rw [h3]; exact spec_ReadMeasure_y s v w h1 h2
  · rw [h3]; exact spec_ReadMeasure_n s w hs h1
/-- The k-th part of a hub's text, read as a measure. -/
noncomputable def hm (s : ByteArray) (k : Nat) : Int × Bool := mdF (sAt (splitB s 47) k)
/-- Are the measures ahead of the k-th read? -/
noncomputable def hOk (s : ByteArray) : Nat → Bool
  | 0 => true
  | k + 1 => hOk s k && (hm s (k + 1)).2
noncomputable def hubOk (s : ByteArray) : Bool := decide ((splitB s 47).length = 5) && (((vlF (sAt (splitB s 47) 0)).2 && hOk s 4) && hubB (vlF (sAt (splitB s 47) 0)).1 (hm s 1).1 (hm s 2).1 (hm s 3).1 (hm s 4).1)
theorem hub_impl (s : ByteArray) : (((rdF (sAt (splitB s 47) 0)).2 && hOk s 4) && hubB (rdF (sAt (splitB s 47) 0)).1 (hm s 1).1 (hm s 2).1 (hm s 3).1 (hm s 4).1) = (((vlF (sAt (splitB s 47) 0)).2 && hOk s 4) && hubB (vlF (sAt (splitB s 47) 0)).1 (hm s 1).1 (hm s 2).1 (hm s 3).1 (hm s 4).1) ∧
    ((((vlF (sAt (splitB s 47) 0)).2 && hOk s 4) && hubB (vlF (sAt (splitB s 47) 0)).1 (hm s 1).1 (hm s 2).1 (hm s 3).1 (hm s 4).1) = true → (rdF (sAt (splitB s 47) 0)).1 = (vlF (sAt (splitB s 47) 0)).1) := by
  obtain ⟨h1, h2⟩ := hol_same (sAt (splitB s 47) 0)
  generalize rdF (sAt (splitB s 47) 0) = x at *
  generalize vlF (sAt (splitB s 47) 0) = y at *
  generalize hOk s 4 = o
  unfold hubB
  generalize (inB (hm s 1).1 200 1200 && (inB (hm s 2).1 200 1200 && (inB (hm s 3).1 0 500 && inB (hm s 4).1 0 500))) = r
  refine ⟨?_, fun h => h2 ?_⟩
  · have e : ∀ z : Int × Bool, (z.2 && o && (holesB z.1 && r)) = ((z.2 && holesB z.1) && (o && r)) := fun z => by
      cases z.2 <;> cases o <;> cases holesB z.1 <;> cases r <;> rfl
    rw [e, e, h1]
  · revert h
    cases y.2 <;> cases o <;> cases holesB y.1 <;> simp

end Go.Proofs.Ytpejbmfapdocaaa
