/- Slices that read as a list: copies and comparisons of lists of numbers. Conditions: those that each theorem names. -/
import Derived.Test.YthibbbjjmjaafaaBase
import Derived.Laws.OwnMore
import Derived.Deep.OwnRows
import Derived.StillTailTactics
namespace Go.Proofs.Ythibbbjjmjaafaa
open Go.RowKit

theorem addBlock (a : Addr) (n : Nat) : (a.add n).block = a.block := by unfold Addr.add; split <;> rfl
/-- The slice at A holds the values us, below block B. -/
def Rd (w : World) (B : Nat) (A : Option Addr) (us : List Value) : Prop := ∀ k u, us[k]? = some u → ∃ ad, A = some ad ∧ ad.block < B ∧ w.cell? (ad.add k) = some u
theorem Rd.keep {w w' : World} {B : Nat} {A : Option Addr} {us : List Value} (h : Rd w B A us) (hb : Below B w w') : Rd w' B A us := fun k u hu => by
  obtain ⟨ad, e, hlt, hc⟩ := h k u hu
  exact ⟨ad, e, hlt, (hb.cell (p := ad.add k) (by rw [addBlock]; exact hlt)).trans hc⟩
theorem Rd.more {w : World} {B C : Nat} {A : Option Addr} {us : List Value} (h : Rd w B A us) (hC : B ≤ C) : Rd w C A us := fun k u hu => by
  obtain ⟨ad, e, hlt, hc⟩ := h k u hu
  exact ⟨ad, e, by omega, hc⟩
theorem Rd.dr {w : World} {B : Nat} {A : Option Addr} {us : List Value} (h : Rd w B A us) (n : Nat) : Rd (w.drewN n) B A us := h
theorem Rd.of_cells {w : World} {B g : Nat} {us : List Value} (h : ∀ i, w.cell? ⟨g, i, none⟩ = us.toArray[i]?) (hg : g < B) : Rd w B (some ⟨g, 0, none⟩) us := fun k u hu => by
  refine ⟨_, rfl, hg, ?_⟩
  rw [Addr.add_lit, Nat.zero_add, h k, List.getElem?_toArray, hu]
theorem Rd.nil {w : World} {B : Nat} {A : Option Addr} : Rd w B A [] := fun k u hu => by simp at hu
def iv (xs : List Int) : List Value := xs.map (Value.int .i64)
theorem iv_get {xs : List Int} {k : Nat} (h : k < xs.length) : (iv xs)[k]? = some (.int .i64 (xs.getD k 0)) := by simp [iv, h]
theorem iv_len (xs : List Int) : (iv xs).length = xs.length := by simp [iv]
theorem Rd.int {w : World} {B : Nat} {A : Option Addr} {xs : List Int} (h : Rd w B A (iv xs)) {k : Nat} (hk : k < xs.length) : ∃ ad, A = some ad ∧ w.cell? (ad.add k) = some (.int .i64 (xs.getD k 0)) := by
  obtain ⟨ad, e, _, hc⟩ := h k _ (iv_get hk)
  exact ⟨ad, e, hc⟩

theorem Try.infoS : (Try.prog.info? 2).map (fun i => (i.zero, i.size, i.bytes)) = some (some (.int .i64 0), 1, 8) := by kernel_rfl
/-- The first k numbers written, the rest still 0. -/
def mix (xs : List Int) (k : Nat) : Array Value := (iv (xs.take k) ++ List.replicate (xs.length - k) (Value.int .i64 0)).toArray
theorem mix_size {xs : List Int} {k : Nat} (hk : k ≤ xs.length) : (mix xs k).size = xs.length := by simp [mix, iv]; omega
theorem mix_zero (xs : List Int) : mix xs 0 = madeCells #[Value.int .i64 0] xs.length := by
  apply Array.ext'
  rw [toList_madeCells_one]
  simp [mix, iv]
theorem mix_full (xs : List Int) : mix xs xs.length = (iv xs).toArray := by simp [mix]
theorem mix_put {xs : List Int} {k : Nat} (hk : k < xs.length) : (mix xs k).setIfInBounds k (.int .i64 (xs.getD k 0)) = mix xs (k + 1) := by
  apply Array.ext_getElem?
  intro i
  rw [Array.getElem?_setIfInBounds, mix_size (by omega)]
  simp only [mix, List.getElem?_toArray]
  have l1 : (iv (xs.take k)).length = k := by simp [iv]; omega
  have l2 : (iv (xs.take (k + 1))).length = k + 1 := by simp [iv]; omega
  by_cases h1 : k = i
  · subst h1
    rw [if_pos rfl, if_pos hk, List.getElem?_append_left (by omega), iv_get (by simp; omega)]
    simp [List.getD_eq_getElem?_getD, List.getElem?_take]
  · rw [if_neg h1]
    rcases Nat.lt_or_ge i k with h2 | h2
    · rw [List.getElem?_append_left (by omega), List.getElem?_append_left (by omega), iv_get (by simp; omega), iv_get (by simp; omega)]
      simp [List.getD_eq_getElem?_getD, List.getElem?_take, h2, show i < k + 1 by omega]
    · rw [List.getElem?_append_right (by omega), List.getElem?_append_right (by omega), l1, l2]
      simp only [List.getElem?_replicate]
      by_cases h3 : i < xs.length
      · rw [if_pos (by omega), if_pos (by omega)]
      · rw [if_neg (by omega), if_neg (by omega)]
/-- What a copy of a list of numbers leaves: a block of its own. -/
def NewInts (w : World) (xs : List Int) (e : Ending) (w' : World) : Prop :=
  e = .returned (.slice (some ⟨w.heap.size, 0, none⟩) xs.length xs.length) ∧ (∀ i, w'.cell? ⟨w.heap.size, i, none⟩ = (iv xs).toArray[i]?) ∧ (∀ i, w'.frozen? ⟨w.heap.size, i, none⟩ = false) ∧ w.heap.size < w'.heap.size ∧ Below w.heap.size w w'

theorem mix_at {xs : List Int} {k : Nat} (hk : k < xs.length) : (mix xs k)[k]? = some (.int .i64 0) := by
  simp only [mix, List.getElem?_toArray]
  rw [List.getElem?_append_right (by simp [iv]; omega), List.getElem?_replicate, if_pos]
  simp [iv]; omega
set_option maxHeartbeats 1000000 in
theorem toInt64S_any (A : Option Addr) (c : Nat) (xs : List Int) (w : World) (hl : xs.length ≤ 1048576) (hr : Rd w w.heap.size A (iv xs)) :
    Calls Try.prog 28 #[.slice A xs.length c] w (NewInts w xs) := by
  have hmk := fun W => run_make_row' (P := Try.prog) 36 2 (.int .i64 0) 8 Try.underlying36 Try.infoS rfl .i64 .i64 xs.length (by omega) (by omega) W
  have HR := Lib.hid hr
  clear hr
  go_enter Try.func28, Try.ntmps28
  go_wp2_with fail
  clear hmk
  go_loopw [4] (fun s4 wr => ∃ k : Nat, k ≤ xs.length ∧ s4 = .int .i64 k ∧ (∀ i, wr.cell? ⟨w.heap.size, i, none⟩ = (mix xs k)[i]?) ∧ (∀ i, wr.frozen? ⟨w.heap.size, i, none⟩ = false) ∧ w.heap.size < wr.heap.size ∧ Below w.heap.size w wr) (fun s4 _ => xs.length - (intOf s4).toNat)
  case atStart => exact ⟨0, Nat.zero_le _, rfl, by rw [mix_zero]; exact cell_new w _ _, frz_new w _ _, by simp, by (repeat (first | with_reducible exact Below.refl _ _ | with_reducible assumption | ((with_reducible refine Bw.set ?_ ?_); rotate_left; focus omega) | ((with_reducible refine Bw.al ?_ ?_); rotate_left; focus (first | omega | (simp; done) | (simp; omega))) | with_reducible refine Below.drew ?_ | with_reducible refine Bw.dr ?_ _))⟩
  case round =>
    obtain ⟨k, hk, rfl, hc, hf, hz, hb⟩ := hrel
    by_cases hlt : k < xs.length
    · obtain ⟨ad, rfl, ha⟩ := (HR.out.keep hb).int hlt
      have hk0 := (hc k).trans (mix_at hlt)
      have hk1 := hf k
      have HC := Lib.hid hc
      have HF := Lib.hid hf
      clear hc hf
      generalize hx : xs.getD k 0 = x at *
      have HX := Lib.hid hx
      clear hx
      go_wp2_with fail
      go_roundw
      case rel => exact ⟨k + 1, by omega, by go_num, by rw [← mix_put hlt, HX.out]; exact cell_put HC.out k _ (by rw [mix_size (by omega)]; exact hlt), frz_put HF.out k _, by simpa using hz, by (repeat (first | with_reducible exact Below.refl _ _ | with_reducible assumption | ((with_reducible refine Bw.set ?_ ?_); rotate_left; focus omega) | ((with_reducible refine Bw.al ?_ ?_); rotate_left; focus (first | omega | (simp; done) | (simp; omega))) | with_reducible refine Below.drew ?_ | with_reducible refine Bw.dr ?_ _))⟩
      case measure => simp [intOf]; omega
    · obtain rfl : k = xs.length := by omega
      have HC := Lib.hid hc
      have HF := Lib.hid hf
      clear hc hf
      go_wp2_with fail
      go_ret
      exact ⟨rfl, by rw [← mix_full]; exact HC.out, HF.out, hz, hb⟩
set_option maxHeartbeats 1000000 in
theorem eqInt64S_same (A C : Option Addr) (c d : Nat) (xs : List Int) (w : World) (hl : xs.length ≤ 1048576) (ha : Rd w w.heap.size A (iv xs)) (hc : Rd w w.heap.size C (iv xs)) :
    Calls Try.prog 30 #[.slice A xs.length c, .slice C xs.length d] w fun e w' => e = .returned (.bool true) ∧ Below w.heap.size w w' := by
  have HA := Lib.hid ha
  have HC := Lib.hid hc
  clear ha hc
  go_enter Try.func30, Try.ntmps30
  go_wp2_with fail
  go_loopw [5] (fun s5 wr => ∃ k : Nat, k ≤ xs.length ∧ s5 = .int .i64 k ∧ Below w.heap.size w wr) (fun s5 _ => xs.length - (intOf s5).toNat)
  case atStart => exact ⟨0, Nat.zero_le _, rfl, by (repeat (first | with_reducible exact Below.refl _ _ | with_reducible assumption | ((with_reducible refine Bw.set ?_ ?_); rotate_left; focus omega) | ((with_reducible refine Bw.al ?_ ?_); rotate_left; focus (first | omega | (simp; done) | (simp; omega))) | with_reducible refine Below.drew ?_ | with_reducible refine Bw.dr ?_ _))⟩
  case round =>
    obtain ⟨k, hk, rfl, hb⟩ := hrel
    by_cases hlt : k < xs.length
    · obtain ⟨ad, rfl, h1⟩ := (HA.out.keep hb).int hlt
      obtain ⟨ae, rfl, h2⟩ := (HC.out.keep hb).int hlt
      generalize xs.getD k 0 = x at *
      go_wp2_with fail
      go_quiet (fail)
      go_wp2_with fail
      go_roundw
      case rel => exact ⟨k + 1, by omega, by go_num, by (repeat (first | with_reducible exact Below.refl _ _ | with_reducible assumption | ((with_reducible refine Bw.set ?_ ?_); rotate_left; focus omega) | ((with_reducible refine Bw.al ?_ ?_); rotate_left; focus (first | omega | (simp; done) | (simp; omega))) | with_reducible refine Below.drew ?_ | with_reducible refine Bw.dr ?_ _))⟩
      case measure => simp [intOf]; omega
    · obtain rfl : k = xs.length := by omega
      go_wp2_with fail
      go_ret
      exact ⟨rfl, by (repeat (first | with_reducible exact Below.refl _ _ | with_reducible assumption | ((with_reducible refine Bw.set ?_ ?_); rotate_left; focus omega) | ((with_reducible refine Bw.al ?_ ?_); rotate_left; focus (first | omega | (simp; done) | (simp; omega))) | with_reducible refine Below.drew ?_ | with_reducible refine Bw.dr ?_ _))⟩

end Go.Proofs.Ythibbbjjmjaafaa
