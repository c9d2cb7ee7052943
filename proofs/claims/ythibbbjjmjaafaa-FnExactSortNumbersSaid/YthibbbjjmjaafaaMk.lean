/- The laws' marks on lists of numbers: written, and read again. Conditions: those that each theorem names. -/
import Derived.Test.YthibbbjjmjaafaaSl
import Derived.Deep.AppendLies
import Derived.OwnWalk
namespace Go.Proofs.Ythibbbjjmjaafaa
open Go.RowKit

/-- The slice at A can be written and holds the values us. -/
def Wr (w : World) (A : Option Addr) (us : List Value) : Prop := ∀ k u, us[k]? = some u → ∃ g, A = some ⟨g, 0, none⟩ ∧ g < w.heap.size ∧ w.cell? ⟨g, k, none⟩ = some u ∧ w.frozen? ⟨g, k, none⟩ = false
theorem Wr.rd {w : World} {A : Option Addr} {us : List Value} (h : Wr w A us) : Rd w w.heap.size A us := fun k u hu => by
  obtain ⟨g, e, hlt, hc, _⟩ := h k u hu
  exact ⟨_, e, hlt, by rw [Addr.add_lit, Nat.zero_add]; exact hc⟩
theorem Wr.below {w w1 : World} {A : Option Addr} {us : List Value} (h : Wr w A us) (hb : Below w.heap.size w w1) : Wr w1 A us := fun k u hu => by
  obtain ⟨g, e, hlt, hc, hf⟩ := h k u hu
  exact ⟨g, e, Nat.lt_of_lt_of_le hlt hb.size, (hb.cell (p := ⟨g, k, none⟩) hlt).trans hc, (hb.frozen (p := ⟨g, k, none⟩) hlt).trans hf⟩
theorem Wr.nil {w : World} {A : Option Addr} : Wr w A [] := fun k u hu => by simp at hu
theorem Wr.of_cells {w : World} {g : Nat} {us : List Value} (h : ∀ i, w.cell? ⟨g, i, none⟩ = us.toArray[i]?) (hf : ∀ i, w.frozen? ⟨g, i, none⟩ = false) (hg : g < w.heap.size) : Wr w (some ⟨g, 0, none⟩) us := fun k u hu =>
  ⟨g, rfl, hg, by rw [h k, List.getElem?_toArray, hu], hf k⟩
theorem own_write {w : World} {base n : Nat} {e : TypeId} {v : Value} {us : List Value} (h : w.ownsRow base e 1 v n us) : ∃ A c, v = .slice A n c ∧ Wr w A us ∧ us.length = n ∧ ∀ k, A.map Addr.block = some k → base ≤ k := by
  rcases h.2 with ⟨rfl, rfl⟩ | ⟨g, cap, cur, rfl, hb, hg, hnc, hcm, hcs, ht⟩
  · have : us = [] := List.eq_nil_of_length_eq_zero (by simpa using h.1)
    subst this
    exact ⟨none, 0, rfl, Wr.nil, rfl, by simp⟩
  · refine ⟨_, _, rfl, fun k u hu => ⟨g, rfl, (Array.getElem?_eq_some_iff.1 hg).1, ?_, ?_⟩, by have := h.1; omega, fun k hk => by simp at hk; omega⟩
    · have := h.cells (g := g) rfl k u hu
      rwa [Addr.add_lit, Nat.zero_add] at this
    · simp [World.frozen?, hg]
theorem grown_set {a w : World} {g : Nat} (h : a.grownBy w (some g)) (o : Nat) (u : Value) : a.grownBy (w.setCell ⟨g, o, none⟩ u) (some g) :=
  ⟨h.os, h.tape, h.output, by simpa [World.setCell] using h.size, fun i hi hne => (Below.heap_setCell w ⟨g, o, none⟩ u i (by rintro rfl; exact hne rfl)).trans (h.block i hi hne)⟩
theorem grown_refl (w : World) (row : Option Nat) : w.grownBy w row := ⟨rfl, rfl, rfl, Nat.le_refl _, fun _ _ _ => rfl⟩
/-- k, k + 1, .. -/
def seqI (K : Int) (n : Nat) : List Int := (List.range n).map fun (j : Nat) => K + (j : Int)
theorem seqI_len (K : Int) (n : Nat) : (seqI K n).length = n := by simp [seqI]
theorem seqI_at {K : Int} {n k : Nat} (h : k < n) : (seqI K n).getD k 0 = K + k := by simp [seqI, h]
theorem seqI_succ (K : Int) (n : Nat) : seqI K (n + 1) = seqI K n ++ [K + n] := by simp [seqI, List.range_succ]
/-- The first k values are marks, the rest is as it was. -/
def mkd (K : Int) (us : List Value) (k : Nat) : List Value := iv (seqI K k) ++ us.drop k
theorem mkd_len {K : Int} {us : List Value} {k : Nat} (h : k ≤ us.length) : (mkd K us k).length = us.length := by simp [mkd, iv, seqI]; omega
theorem mkd_set {K : Int} {us : List Value} {k : Nat} (h : k < us.length) : (mkd K us k).set k (.int .i64 (K + k)) = mkd K us (k + 1) := by
  have l1 : (iv (seqI K k)).length = k := by simp [iv, seqI]
  rw [mkd, mkd, List.set_append_right _ _ (by omega), l1, Nat.sub_self, seqI_succ, List.drop_eq_getElem_cons h, List.set_cons_zero]
  simp [iv]
theorem Wr.set {w : World} {g : Nat} {us : List Value} (h : Wr w (some ⟨g, 0, none⟩) us) {k : Nat} (hk : k < us.length) (u : Value) : Wr (w.setCell ⟨g, k, none⟩ u) (some ⟨g, 0, none⟩) (us.set k u) := fun j x hx => by
  rcases Nat.lt_or_ge j us.length with hj | hj
  · obtain ⟨g', e, hlt, hc, hf⟩ := h j us[j] (List.getElem?_eq_getElem hj)
    injection e with e
    injection e with e
    subst e
    refine ⟨g, rfl, by simpa [World.setCell] using hlt, ?_, by rw [World.frozen?_setCell]; exact hf⟩
    by_cases e : j = k
    · subst e
      rw [World.cell?_setCell_same _ _ _ hc]
      rw [List.getElem?_set_self hj] at hx
      exact hx
    · rw [World.cell?_setCell_other _ _ _ _ (by first | (simp; done) | (simp; omega)), hc]
      rw [List.getElem?_set_ne (by omega), List.getElem?_eq_getElem hj] at hx
      exact hx
  · rw [List.getElem?_eq_none (by simpa using hj)] at hx
    cases hx
theorem Wr.at_ {w : World} {A : Option Addr} {us : List Value} (h : Wr w A us) {k : Nat} (hk : k < us.length) : ∃ g, A = some ⟨g, 0, none⟩ ∧ g < w.heap.size ∧ w.cell? ⟨g, k, none⟩ = some us[k] ∧ w.frozen? ⟨g, k, none⟩ = false := h k _ (List.getElem?_eq_getElem hk)

set_option maxHeartbeats 1000000 in
theorem markInt64S_any (A : Option Addr) (c : Nat) (us : List Value) (K : Int) (w : World) (hl : us.length ≤ 1048576) (hK : 0 ≤ K ∧ K ≤ 1000000000) (hw : Wr w A us) :
    Calls Try.prog 33 #[.slice A us.length c, .int .i64 K] w fun e w' => e = .returned (.int .i64 (K + us.length)) ∧ Wr w' A (iv (seqI K us.length)) ∧ w.grownBy w' (A.map Addr.block) := by
  have HW := Lib.hid hw
  clear hw
  go_enter Try.func33, Try.ntmps33
  go_wp2_with fail
  go_loopw [5, 1] (fun s5 s1 wr => ∃ k : Nat, k ≤ us.length ∧ s5 = .int .i64 k ∧ s1 = .int .i64 (K + k) ∧ Wr wr A (mkd K us k) ∧ w.grownBy wr (A.map Addr.block)) (fun s5 _ _ => us.length - (intOf s5).toNat)
  case atStart => exact ⟨0, Nat.zero_le _, rfl, by simp, by simpa [mkd, seqI, iv] using HW.out, grown_refl _ _⟩
  case round =>
    obtain ⟨k, hk, rfl, rfl, hm, hg⟩ := hrel
    have HM := Lib.hid hm
    have HG := Lib.hid hg
    clear hm hg
    by_cases hlt : k < us.length
    · obtain ⟨g, rfl, hgl, hc, hf⟩ := HM.out.at_ (k := k) (by rw [mkd_len hk]; exact hlt)
      generalize (mkd K us k)[k]'(by rw [mkd_len hk]; exact hlt) = x at *
      go_wp2_with fail
      go_roundw
      case rel => exact ⟨k + 1, by omega, by go_num, by go_num, by rw [← mkd_set hlt]; exact HM.out.set (by rw [mkd_len hk]; exact hlt) _, grown_set HG.out _ _⟩
      case measure => simp [intOf]; omega
    · obtain rfl : k = us.length := by omega
      go_wp2_with fail
      go_ret
      exact ⟨rfl, by simpa [mkd] using HM.out, HG.out⟩
set_option maxHeartbeats 1000000 in
theorem heldInt64S_any (A : Option Addr) (c n : Nat) (K : Int) (w : World) (hl : n ≤ 1048576) (hK : 0 ≤ K ∧ K ≤ 1000000000) (hr : Rd w w.heap.size A (iv (seqI K n))) :
    Calls Try.prog 34 #[.slice A n c, .int .i64 K] w fun e w' => e = .returned (.int .i64 (K + n)) ∧ w = w' := by
  have HR := Lib.hid hr
  clear hr
  go_enter Try.func34, Try.ntmps34
  go_wp2_with fail
  go_loop [5, 1] (fun s5 s1 => ∃ k : Nat, k ≤ n ∧ s5 = .int .i64 k ∧ s1 = .int .i64 (K + k)) (fun s5 _ => n - (intOf s5).toNat)
  case atStart => exact ⟨0, Nat.zero_le _, rfl, by simp⟩
  case round =>
    obtain ⟨k, hk, rfl, rfl⟩ := hrel
    by_cases hlt : k < n
    · obtain ⟨ad, rfl, h1⟩ := HR.out.int (k := k) (by rw [seqI_len]; exact hlt)
      rw [seqI_at hlt] at h1
      go_wp2_with fail
      go_round
      case rel => exact ⟨k + 1, by omega, by go_num, by go_num⟩
      case measure => simp [intOf]; omega
    · obtain rfl : k = n := by omega
      go_wp2_with fail
      go_ret
      exact ⟨rfl, rfl⟩

end Go.Proofs.Ythibbbjjmjaafaa
