/- Slices that read as a list: copies and comparisons of lists of numbers. Conditions: those that each theorem names. -/
import Derived.Test.YtpejbmfapdocaaaBase
import Derived.Laws.OwnMore
import Derived.Deep.OwnRows
import Derived.StillTailTactics
namespace Go.Proofs.Ytpejbmfapdocaaa
open Go.RowKit

theorem addBlock (a : Addr) (n : Nat) : (a.add n).block = a.block := by unfold Addr.add; split <;> rfl
/-- The slice at A holds the values us, below block B. -/
def Rd (w : World) (B : Nat) (A : Option Addr) (us : List Value) : Prop := ∀ k u, us[k]? = some u → ∃ ad, A = some ad ∧ ad.block < B ∧ w.cell? (ad.add k) = some u
theorem Rd.keep {w w' : World} {B : Nat} {A : Option Addr} {us : List Value} (h : Rd w B A us) (hb : Below B w w') : Rd w' B A us := fun k u hu => by
  obtain ⟨ad, e, hlt, hc⟩ := h k u hu
  exact ⟨ad, e, hlt, (hb.cell (p := ad.add k) (by rw [addBlock]; exact hlt)).trans hc⟩
theorem Rd.more {w : World} {B C : Nat} {A : Option Addr} {us : List Value} (h : Rd w B A us) (hC : B ≤ C) : Rd w C A us := fun k u hu => by
  obtain ⟨ad, e, hlt, hc⟩ := h k u hu
  exact ⟨ad, e, by omega, hc⟩
theorem Rd.dr {w : World} {B : Nat} {A : Option Addr} {us : List Value} (h : Rd w B A us) (n : Nat) : Rd (w.drewN n) B A us := h
theorem Rd.of_cells {w : World} {B g : Nat} {us : List Value} (h : ∀ i, w.cell? ⟨g, i, none⟩ = us.toArray[i]?) (hg : g < B) : Rd w B (some ⟨g, 0, none⟩) us := fun k u hu => by
  refine ⟨_, rfl, hg, ?_⟩
  rw [Addr.add_lit, Nat.zero_add, h k, List.getElem?_toArray, hu]
theorem Rd.nil {w : World} {B : Nat} {A : Option Addr} : Rd w B A [] := fun k u hu => by simp at hu
def iv (xs : List Int) : List Value := xs.map (Value.int .i64)
theorem iv_get {xs : List Int} {k : Nat} (h : k < xs.length) : (iv xs)[k]? = some (.int .i64 (xs.getD k 0)) := by simp [iv, h]
theorem iv_len (xs : List Int) : (iv xs).length = xs.length := by simp [iv]
theorem Rd.int {w : World} {B : Nat} {A : Option Addr} {xs : List Int} (h : Rd w B A (iv xs)) {k : Nat} (hk : k < xs.length) : ∃ ad, A = some ad ∧ w.cell? (ad.add k) = some (.int .i64 (xs.getD k 0)) := by
  obtain ⟨ad, e, _, hc⟩ := h k _ (iv_get hk)
  exact ⟨ad, e, hc⟩

theorem Try.infoS : (Try.prog.info? 2).map (fun i => (i.zero, i.size, i.bytes)) = some (some (.int .i64 0), 1, 8) := by kernel_rfl
/-- The first k numbers written, the rest still 0. -/
def mix (xs : List Int) (k : Nat) : Array Value := (iv (xs.take k) ++ List.replicate (xs.length - k) (Value.int .i64 0)).toArray
theorem mix_size {xs : List Int} {k : Nat} (hk : k ≤ xs.length) : (mix xs k).size = xs.length := by simp [mix, iv]; omega
theorem mix_zero (xs : List Int) : mix xs 0 = madeCells #[Value.int .i64 0] xs.length := by
  apply Array.ext'
  rw [toList_madeCells_one]
  simp [mix, iv]
theorem mix_full (xs : List Int) : mix xs xs.length = (iv xs).toArray := by simp [mix]
theorem mix_put {xs : List Int} {k : Nat} (hk : k < xs.length) : (mix xs k).setIfInBounds k (.int .i64 (xs.getD k 0)) = mix xs (k + 1) := by
  apply Array.ext_getElem?
  intro i
  rw [Array.getElem?_setIfInBounds, mix_size (by omega)]
  simp only [mix, List.getElem?_toArray]
  have l1 : (iv (xs.take k)).length = k := by simp [iv]; omega
  have l2 : (iv (xs.take (k + 1))).length = k + 1 := by simp [iv]; omega
  by_cases h1 : k = i
  · subst h1
    rw [if_pos rfl, if_pos hk, List.getElem?_append_left (by omega), iv_get (by simp; omega)]
    simp [List.getD_eq_getElem?_getD]
  · rw [if_neg h1]
    rcases Nat.lt_or_ge i k with h2 | h2
    · rw [List.getElem?_append_left (by omega), List.getElem?_append_left (by omega), iv_get (by simp; omega), iv_get (by simp; omega)]
      simp [List.getD_eq_getElem?_getD, h2, show i < k + 1 by omega]
    · rw [List.getElem?_append_right (by omega), List.getElem?_append_right (by omega), l1, l2]
      simp only [List.getElem?_replicate]
      by_cases h3 : i < xs.length
      · rw [if_pos (by omega), if_pos (by omega)]
      · rw [if_neg (by omega), if_neg (by omega)]
/-- What a copy of a list of numbers leaves: a block of its own. -/
def NewInts (w : World) (xs : List Int) (e : Ending) (w' : World) : Prop :=
  e = .returned (.slice (some ⟨w.heap.size, 0, none⟩) xs.length xs.length) ∧ (∀ i, w'.cell? ⟨w.heap.size, i, none⟩ = (iv xs).toArray[i]?) ∧ (∀ i, w'.frozen? ⟨w.heap.size, i, none⟩ = false) ∧ w.heap.size < w'.heap.size ∧ Below w.heap.size w w'

theorem mix_at {xs : List Int} {k : Nat} (hk : k < xs.length) : (mix xs k)[k]? = some (.int .i64 0) := by
  simp only [mix, List.getElem?_toArray]
  rw [List.getElem?_append_right (by simp [iv]; omega), List.getElem?_replicate, if_pos]
  simp [iv]; omega

end Go.Proofs.Ytpejbmfapdocaaa
