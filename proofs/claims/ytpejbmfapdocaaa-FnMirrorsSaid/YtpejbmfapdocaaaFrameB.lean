/- Arguments opened: a slice of bytes reads as a list. No condition. -/
import Derived.Test.YtpejbmfapdocaaaFrame
import Derived.Test.YtpejbmfapdocaaaDr
import Derived.ChangeSlices
namespace Go.Proofs.Ytpejbmfapdocaaa
open Go.ChangeShapes Go.WideShapes Go.ChangeAt Go.RowKit Go.Joins

theorem open_bytL {H : Type} {enc : TypeId × Value → H} {P : Program} {W : World} {b0 : Nat} {t e : TypeId} {v : Value} {d : DataW H} {ps : List MemPlace}
    (ht : P.underlying t = some (.slice e)) (he : P.underlying e = some (.int .u8)) (hc : P.cellsOf e = 1) (hv : Value.okWide P W .any b0 t v) (h : DataW.Trod enc P W 0 (fun _ => true) true t v d ps) (hlt : ∀ x ∈ ps, x.block < W.heap.size) :
    ∃ (A : Option Addr) (c : Nat) (xs : List Int), v = .slice A xs.length c ∧ Rd W W.heap.size A (bv xs) ∧ xs.length ≤ maxLen ∧ (∀ k, 0 ≤ xs.getD k 0 ∧ xs.getD k 0 ≤ 255) := by
  obtain ⟨A, n, c, rfl⟩ := okWide_slice ht hv
  obtain ⟨fuel, hf⟩ := h
  rcases open_ints ht he hc hf with ⟨hcs, hx⟩ | ⟨a, len, cap, zs, hcs, _, hl, hm, hz, hx, hcell, hw⟩
  · simp [Value.cells] at hcs
    obtain ⟨rfl, rfl, rfl⟩ := hcs
    exact ⟨none, 0, [], rfl, Rd.nil, by simp, fun k => by simp⟩
  · simp [Value.cells] at hcs
    obtain ⟨rfl, rfl, rfl⟩ := hcs
    simp only [Prod.mk.injEq] at hx
    obtain ⟨rfl, rfl⟩ := hx
    simp only [if_true] at hz
    have hl2 : (zs.take n).length = n := by rw [List.length_take]; omega
    refine ⟨some a, c, zs.take n, by rw [hl2], fun k u hu => ?_, by omega, fun k => ?_⟩
    · have hk : k < (zs.take n).length := by
        rcases Nat.lt_or_ge k (zs.take n).length with h' | h'
        · exact h'
        · rw [List.getElem?_eq_none (by rw [bv_len]; exact h')] at hu; cases hu
      rw [bv_get hk] at hu
      injection hu with hu
      subst hu
      refine ⟨a, rfl, ?_, ?_⟩
      · exact hlt _ (MemPlace.mem_row.2 ⟨0, by omega, rfl⟩)
      · rw [hcell k (by omega)]
        simp [List.getD_eq_getElem?_getD, show k < n by omega]
    · rcases Nat.lt_or_ge k (zs.take n).length with h' | h'
      · have hk : k < zs.length := by omega
        have h1 := hw (zs.getD k 0) (by rw [List.getD_eq_getElem?_getD, List.getElem?_eq_getElem hk]; exact List.getElem_mem hk)
        simp only [Lit.wf, Bool.and_eq_true, decide_eq_true_eq] at h1
        have e : (zs.take n).getD k 0 = zs.getD k 0 := by simp [List.getD_eq_getElem?_getD, show k < n by omega]
        rw [e]
        have h2 : IntKind.u8.has (zs.getD k 0) := by first | exact h1 | exact h1.1 | exact h1.2
        exact ⟨h2.1, h2.2⟩
      · rw [List.getD_eq_getElem?_getD, List.getElem?_eq_none h']
        simp

end Go.Proofs.Ytpejbmfapdocaaa
