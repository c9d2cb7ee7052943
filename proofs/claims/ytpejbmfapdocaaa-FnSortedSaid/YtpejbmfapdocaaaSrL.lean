/- Sorting: the plain law, and the law's small functions. Conditions: those that each theorem names. -/
import Derived.Test.YtpejbmfapdocaaaSp
namespace Go.Proofs.Ytpejbmfapdocaaa
open Go.RowKit

theorem insL_sum : ∀ (S : List Int) (x : Int), (insL S x).sum = S.sum + x
  | [], x => by simp [insL]
  | y :: S, x => by
    rw [insL]
    split
    · rw [List.sum_cons, insL_sum S x, List.sum_cons]; omega
    · rw [List.sum_cons, List.sum_cons]; omega
theorem take_getD {xs : List Int} {k : Nat} (hk : k < xs.length) : xs.take (k + 1) = xs.take k ++ [xs.getD k 0] := by
  rw [List.take_add_one, List.getElem?_eq_getElem hk]
  simp [hk]
theorem isort_sum (xs : List Int) : ∀ k, k ≤ xs.length → (isort xs k).sum = (xs.take k).sum
  | 0, _ => by simp [isort]
  | k + 1, h => by
    rw [isort, insL_sum, isort_sum xs k (by omega), take_getD (by omega)]
    simp
theorem isort_mem (xs : List Int) : ∀ k, k ≤ xs.length → ∀ z, z ∈ isort xs k ↔ z ∈ xs.take k
  | 0, _, z => by simp [isort]
  | k + 1, h, z => by
    rw [isort, insL_mem, isort_mem xs k (by omega) z, take_getD (by omega)]
    simp [or_comm]
theorem isort_sorted_id {ys : List Int} (h : ys.Pairwise (· ≤ ·)) : ∀ k, k ≤ ys.length → isort ys k = ys.take k
  | 0, _ => by simp [isort]
  | k + 1, hk => by
    rw [isort, isort_sorted_id h k (by omega), take_getD (by omega), insL_all_le]
    intro z hz
    obtain ⟨j, hj, rfl⟩ := List.getElem_of_mem hz
    rw [List.length_take] at hj
    rw [List.getElem_take, List.getD_eq_getElem?_getD, List.getElem?_eq_getElem (by omega), Option.getD_some]
    exact (List.pairwise_iff_getElem.1 h) j k (by omega) (by omega) (by omega)
/-- What the law asks of a list in order. -/
structure Sorts (xs ys : List Int) : Prop where
  len : ys.length = xs.length
  le : xs.length ≤ 60
  up : ∀ k, k + 1 < ys.length → ys.getD k 0 ≤ ys.getD (k + 1) 0
  has : ∀ k, k < xs.length → xs.getD k 0 ∈ ys
  again : snF ys = (ys, 0)
  sum : ys.sum = xs.sum
  vx : allV xs = true
  vy : allV ys = true
theorem sorts_of {xs ys : List Int} (h : snF xs = (ys, 0)) : Sorts xs ys := by
  rcases k1 : allV xs with _ | _
  · rw [snF_n k1] at h; simp at h
  by_cases k2 : 60 < xs.length
  · rw [snF_l k1 k2] at h; simp at h
  rw [snF_y k1 k2] at h
  obtain ⟨rfl, _⟩ := Prod.mk.inj h
  have hs := isort_sorted xs xs.length
  have hl := isort_len xs xs.length
  have hm := isort_mem xs xs.length (Nat.le_refl _)
  rw [List.take_length] at hm
  have hv : allV (isort xs xs.length) = true := allV_t fun j hj => by
    have h1 : (isort xs xs.length).getD j 0 ∈ isort xs xs.length := by
      rw [List.getD_eq_getElem?_getD, List.getElem?_eq_getElem hj]; exact List.getElem_mem hj
    obtain ⟨i, hi, e⟩ := List.getElem_of_mem ((hm _).1 h1)
    rw [← e]
    have := allV_get k1 hi
    rwa [List.getD_eq_getElem?_getD, List.getElem?_eq_getElem hi] at this
  refine ⟨hl, by omega, fun k hk => ?_, fun k hk => ?_, ?_, ?_, k1, hv⟩
  · rw [List.getD_eq_getElem?_getD, List.getD_eq_getElem?_getD, List.getElem?_eq_getElem (by omega), List.getElem?_eq_getElem hk]
    exact (List.pairwise_iff_getElem.1 hs) k (k + 1) (by omega) hk (by omega)
  · rw [hm, List.getD_eq_getElem?_getD, List.getElem?_eq_getElem hk]
    exact List.getElem_mem hk
  · rw [snF_y hv (by omega), isort_sorted_id hs _ (Nat.le_refl _), List.take_length]
  · have := isort_sum xs xs.length (Nat.le_refl _)
    rwa [List.take_length] at this
theorem snF_code (xs : List Int) : (snF xs).2 = 0 ∨ (snF xs).2 ≠ 0 := by omega
theorem snF_len (xs : List Int) (h : xs.length ≤ 61) : (snF xs).1.length ≤ 61 := by
  unfold snF
  split
  · split
    · simp
    · simp [isort_len]; omega
  · simp
/-- The sum of the first k numbers. -/
theorem sum_bd {xs : List Int} (h : allV xs = true) : ∀ k, k ≤ xs.length → -(1000000000000 * (k : Int)) ≤ (xs.take k).sum ∧ (xs.take k).sum ≤ 1000000000000 * (k : Int)
  | 0, _ => by simp
  | k + 1, hk => by
    have ih := sum_bd h k (by omega)
    have hb := allV_bd h (j := k) (by omega)
    rw [take_getD (by omega), List.sum_append]
    simp only [List.sum_cons, List.sum_nil]
    omega
set_option maxHeartbeats 1000000 in
theorem likeInts_same (A C : Option Addr) (c d : Nat) (xs : List Int) (w : World) (hl : xs.length ≤ 1048576) (ha : Rd w w.heap.size A (iv xs)) (hc : Rd w w.heap.size C (iv xs)) :
    Calls Try.prog 22 #[.slice A xs.length c, .slice C xs.length d] w fun e w' => e = .returned (.bool true) ∧ Below w.heap.size w w' := by
  have HA := Lib.hid ha
  have HC := Lib.hid hc
  clear ha hc
  go_enter Try.func22, Try.ntmps22
  go_wp2_with fail
  go_loopw [5] (fun s5 wr => ∃ k : Nat, k ≤ xs.length ∧ s5 = .int .i64 k ∧ Below w.heap.size w wr) (fun s5 _ => xs.length - (intOf s5).toNat)
  case atStart => exact ⟨0, Nat.zero_le _, rfl, by (repeat (first | with_reducible exact Below.refl _ _ | with_reducible assumption | ((with_reducible refine Bw.set ?_ ?_); rotate_left; focus omega) | ((with_reducible refine Bw.al ?_ ?_); rotate_left; focus (first | omega | (simp; done) | (simp; omega))) | with_reducible refine Below.drew ?_ | with_reducible refine Bw.dr ?_ _))⟩
  case round =>
    obtain ⟨k, hk, rfl, hb⟩ := hrel
    by_cases hlt : k < xs.length
    · obtain ⟨ad, rfl, h1⟩ := (HA.out.keep hb).int hlt
      obtain ⟨ae, rfl, h2⟩ := (HC.out.keep hb).int hlt
      generalize xs.getD k 0 = x at *
      go_wp2_with fail
      go_quiet (fail)
      go_wp2_with fail
      go_roundw
      case rel => exact ⟨k + 1, by omega, by go_num, by (repeat (first | with_reducible exact Below.refl _ _ | with_reducible assumption | ((with_reducible refine Bw.set ?_ ?_); rotate_left; focus omega) | ((with_reducible refine Bw.al ?_ ?_); rotate_left; focus (first | omega | (simp; done) | (simp; omega))) | with_reducible refine Below.drew ?_ | with_reducible refine Bw.dr ?_ _))⟩
      case measure => simp [intOf]; omega
    · obtain rfl : k = xs.length := by omega
      go_wp2_with fail
      go_ret
      exact ⟨rfl, by (repeat (first | with_reducible exact Below.refl _ _ | with_reducible assumption | ((with_reducible refine Bw.set ?_ ?_); rotate_left; focus omega) | ((with_reducible refine Bw.al ?_ ?_); rotate_left; focus (first | omega | (simp; done) | (simp; omega))) | with_reducible refine Below.drew ?_ | with_reducible refine Bw.dr ?_ _))⟩
set_option maxHeartbeats 1000000 in
theorem hasInt_yes (A : Option Addr) (c : Nat) (xs : List Int) (x : Int) (w : World) (hl : xs.length ≤ 1048576) (ha : Rd w w.heap.size A (iv xs)) (hx : x ∈ xs) :
    Calls Try.prog 57 #[.slice A xs.length c, .int .i64 x] w fun e w' => e = .returned (.bool true) ∧ w = w' := by
  have HA := Lib.hid ha
  have HX := Lib.hid hx
  clear ha hx
  go_enter Try.func57, Try.ntmps57
  go_wp2_with fail
  go_loop [5] (fun s5 => ∃ k : Nat, k ≤ xs.length ∧ s5 = .int .i64 k ∧ ∀ j : Nat, j < k → xs.getD j 0 ≠ x) (fun s5 => xs.length - (intOf s5).toNat)
  case atStart => exact ⟨0, Nat.zero_le _, rfl, fun j h => absurd h (by omega)⟩
  case round =>
    obtain ⟨k, hk, rfl, hno⟩ := hrel
    have HN := Lib.hid hno
    clear hno
    by_cases hlt : k < xs.length
    · obtain ⟨ad, rfl, h1⟩ := HA.out.int hlt
      generalize hz : xs.getD k 0 = z at *
      have HZ := Lib.hid hz
      clear hz
      by_cases hzx : z = x
      · have hb : (z == x) = true := by simp [hzx]
        clear hzx
        go_wp2_with fail
        go_ret
        exact ⟨rfl, rfl⟩
      · have hb : (z == x) = false := by simp [hzx]
        go_wp2_with fail
        go_round
        case rel =>
          refine ⟨k + 1, by omega, by go_num, fun j hj => ?_⟩
          by_cases e : j = k
          · subst e; rw [HZ.out]; exact hzx
          · exact HN.out j (by omega)
        case measure => simp [intOf]; omega
    · obtain ⟨j, hj, e⟩ := List.getElem_of_mem HX.out
      exact absurd (by rw [List.getD_eq_getElem?_getD, List.getElem?_eq_getElem hj]; exact e) (HN.out j (by omega))
set_option maxHeartbeats 1000000 in
theorem sum_any (A : Option Addr) (c : Nat) (xs : List Int) (w : World) (hl : xs.length ≤ 60) (hv : allV xs = true) (ha : Rd w w.heap.size A (iv xs)) :
    Calls Try.prog 58 #[.slice A xs.length c] w fun e w' => e = .returned (.int .i64 xs.sum) ∧ w = w' := by
  have HA := Lib.hid ha
  have HV := Lib.hid hv
  clear ha hv
  go_enter Try.func58, Try.ntmps58
  go_wp2_with fail
  go_loop [4, 3] (fun s4 s3 => ∃ k : Nat, k ≤ xs.length ∧ s4 = .int .i64 k ∧ s3 = .int .i64 (xs.take k).sum) (fun s4 _ => xs.length - (intOf s4).toNat)
  case atStart => exact ⟨0, Nat.zero_le _, rfl, by simp⟩
  case round =>
    obtain ⟨k, hk, rfl, rfl⟩ := hrel
    have hb := sum_bd HV.out k hk
    by_cases hlt : k < xs.length
    · obtain ⟨ad, rfl, h1⟩ := HA.out.int hlt
      have hx := allV_bd HV.out hlt
      have HT := Lib.hid (show (xs.take (k + 1)).sum = (xs.take k).sum + xs.getD k 0 by rw [take_getD hlt]; simp)
      generalize xs.getD k 0 = z at *
      generalize (xs.take k).sum = S at *
      go_wp2_with fail
      go_round
      case rel => exact ⟨k + 1, by omega, by go_num, by rw [HT.out]⟩
      case measure => simp [intOf]; omega
    · obtain rfl : k = xs.length := by omega
      go_wp2_with fail
      go_ret
      exact ⟨by first | rfl | rw [List.take_length], rfl⟩

end Go.Proofs.Ytpejbmfapdocaaa
