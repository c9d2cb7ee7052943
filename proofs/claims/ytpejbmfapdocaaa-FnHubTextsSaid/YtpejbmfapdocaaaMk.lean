/- The laws' marks on lists of numbers: written, and read again. Conditions: those that each theorem names. -/
import Derived.Test.YtpejbmfapdocaaaSl
import Derived.Deep.AppendLies
import Derived.OwnWalk
namespace Go.Proofs.Ytpejbmfapdocaaa
open Go.RowKit

/-- The slice at A can be written and holds the values us. -/
def Wr (w : World) (A : Option Addr) (us : List Value) : Prop := ∀ k u, us[k]? = some u → ∃ g, A = some ⟨g, 0, none⟩ ∧ g < w.heap.size ∧ w.cell? ⟨g, k, none⟩ = some u ∧ w.frozen? ⟨g, k, none⟩ = false
theorem Wr.rd {w : World} {A : Option Addr} {us : List Value} (h : Wr w A us) : Rd w w.heap.size A us := fun k u hu => by
  obtain ⟨g, e, hlt, hc, _⟩ := h k u hu
  exact ⟨_, e, hlt, by rw [Addr.add_lit, Nat.zero_add]; exact hc⟩
theorem Wr.below {w w1 : World} {A : Option Addr} {us : List Value} (h : Wr w A us) (hb : Below w.heap.size w w1) : Wr w1 A us := fun k u hu => by
  obtain ⟨g, e, hlt, hc, hf⟩ := h k u hu
  exact ⟨g, e, Nat.lt_of_lt_of_le hlt hb.size, (hb.cell (p := ⟨g, k, none⟩) hlt).trans hc, (hb.frozen (p := ⟨g, k, none⟩) hlt).trans hf⟩
theorem Wr.nil {w : World} {A : Option Addr} : Wr w A [] := fun k u hu => by simp at hu
theorem Wr.of_cells {w : World} {g : Nat} {us : List Value} (h : ∀ i, w.cell? ⟨g, i, none⟩ = us.toArray[i]?) (hf : ∀ i, w.frozen? ⟨g, i, none⟩ = false) (hg : g < w.heap.size) : Wr w (some ⟨g, 0, none⟩) us := fun k u hu =>
  ⟨g, rfl, hg, by rw [h k, List.getElem?_toArray, hu], hf k⟩
theorem own_write {w : World} {base n : Nat} {e : TypeId} {v : Value} {us : List Value} (h : w.ownsRow base e 1 v n us) : ∃ A c, v = .slice A n c ∧ Wr w A us ∧ us.length = n ∧ ∀ k, A.map Addr.block = some k → base ≤ k := by
  rcases h.2 with ⟨rfl, rfl⟩ | ⟨g, cap, cur, rfl, hb, hg, hnc, hcm, hcs, ht⟩
  · have : us = [] := List.eq_nil_of_length_eq_zero (by simpa using h.1)
    subst this
    exact ⟨none, 0, rfl, Wr.nil, rfl, by simp⟩
  · refine ⟨_, _, rfl, fun k u hu => ⟨g, rfl, (Array.getElem?_eq_some_iff.1 hg).1, ?_, ?_⟩, by have := h.1; omega, fun k hk => by simp at hk; omega⟩
    · have := h.cells (g := g) rfl k u hu
      rwa [Addr.add_lit, Nat.zero_add] at this
    · simp [World.frozen?, hg]
theorem grown_set {a w : World} {g : Nat} (h : a.grownBy w (some g)) (o : Nat) (u : Value) : a.grownBy (w.setCell ⟨g, o, none⟩ u) (some g) :=
  ⟨h.os, h.tape, h.output, by simpa [World.setCell] using h.size, fun i hi hne => (Below.heap_setCell w ⟨g, o, none⟩ u i (by rintro rfl; exact hne rfl)).trans (h.block i hi hne)⟩
theorem grown_refl (w : World) (row : Option Nat) : w.grownBy w row := ⟨rfl, rfl, rfl, Nat.le_refl _, fun _ _ _ => rfl⟩
/-- k, k + 1, .. -/
def seqI (K : Int) (n : Nat) : List Int := (List.range n).map fun (j : Nat) => K + (j : Int)
theorem seqI_len (K : Int) (n : Nat) : (seqI K n).length = n := by simp [seqI]
theorem seqI_at {K : Int} {n k : Nat} (h : k < n) : (seqI K n).getD k 0 = K + k := by simp [seqI, h]
theorem seqI_succ (K : Int) (n : Nat) : seqI K (n + 1) = seqI K n ++ [K + n] := by simp [seqI, List.range_succ]
/-- The first k values are marks, the rest is as it was. -/
def mkd (K : Int) (us : List Value) (k : Nat) : List Value := iv (seqI K k) ++ us.drop k
theorem mkd_len {K : Int} {us : List Value} {k : Nat} (h : k ≤ us.length) : (mkd K us k).length = us.length := by simp [mkd, iv, seqI]; omega
theorem mkd_set {K : Int} {us : List Value} {k : Nat} (h : k < us.length) : (mkd K us k).set k (.int .i64 (K + k)) = mkd K us (k + 1) := by
  have l1 : (iv (seqI K k)).length = k := by simp [iv, seqI]
  rw [mkd, mkd, List.set_append_right _ _ (by omega), l1, Nat.sub_self, seqI_succ, List.drop_eq_getElem_cons h, List.set_cons_zero]
  simp [iv]
theorem Wr.set {w : World} {g : Nat} {us : List Value} (h : Wr w (some ⟨g, 0, none⟩) us) {k : Nat} (hk : k < us.length) (u : Value) : Wr (w.setCell ⟨g, k, none⟩ u) (some ⟨g, 0, none⟩) (us.set k u) := fun j x hx => by
  rcases Nat.lt_or_ge j us.length with hj | hj
  · obtain ⟨g', e, hlt, hc, hf⟩ := h j us[j] (List.getElem?_eq_getElem hj)
    injection e with e
    injection e with e
    subst e
    refine ⟨g, rfl, by simpa [World.setCell] using hlt, ?_, by rw [World.frozen?_setCell]; exact hf⟩
    by_cases e : j = k
    · subst e
      rw [World.cell?_setCell_same _ _ _ hc]
      rw [List.getElem?_set_self hj] at hx
      exact hx
    · rw [World.cell?_setCell_other _ _ _ _ (by first | (simp; done) | (simp; omega)), hc]
      rw [List.getElem?_set_ne (by omega), List.getElem?_eq_getElem hj] at hx
      exact hx
  · rw [List.getElem?_eq_none (by simpa using hj)] at hx
    cases hx
theorem Wr.at_ {w : World} {A : Option Addr} {us : List Value} (h : Wr w A us) {k : Nat} (hk : k < us.length) : ∃ g, A = some ⟨g, 0, none⟩ ∧ g < w.heap.size ∧ w.cell? ⟨g, k, none⟩ = some us[k] ∧ w.frozen? ⟨g, k, none⟩ = false := h k _ (List.getElem?_eq_getElem hk)


end Go.Proofs.Ytpejbmfapdocaaa
