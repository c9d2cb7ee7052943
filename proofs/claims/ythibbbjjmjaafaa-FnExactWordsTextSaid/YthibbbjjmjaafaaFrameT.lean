/- Arguments opened: a slice of texts reads as a list; a text. No condition. -/
import Derived.Test.YthibbbjjmjaafaaFrameS
import Derived.Test.YthibbbjjmjaafaaSt
import Derived.SliceStrings
import Derived.ChangeMaps5
namespace Go.Proofs.Ythibbbjjmjaafaa
open Go.ChangeShapes Go.WideShapes Go.ChangeAt Go.RowKit Go.Joins

theorem open_strL {H : Type} {enc : TypeId × Value → H} {P : Program} {W : World} {b0 : Nat} {t e : TypeId} {v : Value} {d : DataW H} {ps : List MemPlace}
    (ht : P.underlying t = some (.slice e)) (he : P.underlying e = some .string) (hc : P.cellsOf e = 1) (hv : Value.okWide P W .any b0 t v) (h : DataW.Trod enc P W 0 (fun _ => true) true t v d ps) (hlt : ∀ x ∈ ps, x.block < W.heap.size) :
    ∃ (A : Option Addr) (c : Nat) (ss : List ByteArray), v = .slice A ss.length c ∧ Rd W W.heap.size A (sv ss) ∧ ss.length ≤ maxLen ∧ ∀ k, (sAt ss k).size ≤ maxLen := by
  obtain ⟨A, n, c, rfl⟩ := okWide_slice ht hv
  obtain ⟨fuel, hf⟩ := h
  rcases open_strings ht he hc hf with ⟨hcs, hx⟩ | ⟨a, len, cap, zs, hcs, _, hl, hm, hz, hx, hcell, hw⟩
  · simp [Value.cells] at hcs
    obtain ⟨rfl, rfl, rfl⟩ := hcs
    exact ⟨none, 0, [], rfl, Rd.nil, by simp, fun k => by simp [sAt]⟩
  · simp [Value.cells] at hcs
    obtain ⟨rfl, rfl, rfl⟩ := hcs
    simp only [Prod.mk.injEq] at hx
    obtain ⟨rfl, rfl⟩ := hx
    simp only [if_true] at hz
    have hl2 : (zs.take n).length = n := by rw [List.length_take]; omega
    refine ⟨some a, c, zs.take n, by rw [hl2], fun k u hu => ?_, by omega, fun k => ?_⟩
    · have hk : k < (zs.take n).length := by
        rcases Nat.lt_or_ge k (zs.take n).length with h' | h'
        · exact h'
        · rw [List.getElem?_eq_none (by rw [sv_len]; exact h')] at hu; cases hu
      rw [sv_get hk] at hu
      injection hu with hu
      subst hu
      refine ⟨a, rfl, ?_, ?_⟩
      · exact hlt _ (MemPlace.mem_row.2 ⟨0, by omega, rfl⟩)
      · rw [hcell k (by omega)]
        simp [sAt, List.getD_eq_getElem?_getD, show k < n by omega]
    · rcases Nat.lt_or_ge k (zs.take n).length with h' | h'
      · have : sAt (zs.take n) k ∈ zs := by
          simp only [sAt, List.getD_eq_getElem?_getD, List.getElem?_eq_getElem h', Option.getD_some]
          exact List.mem_of_mem_take (List.getElem_mem h')
        exact hw _ this
      · simp [sAt, List.getD_eq_getElem?_getD, List.getElem?_eq_none h']

end Go.Proofs.Ythibbbjjmjaafaa
