/- Plain laws of cosines, points and distances. Conditions: those that each theorem names. -/
import Derived.Test.YtjfhhdplgacnhaaAngS
namespace Go.Proofs.Ytjfhhdplgacnhaa
open Go.RowKit

theorem cosI_turn (n : Int) : cosI (n + 720) = cosI n := by
  unfold cosI
  rw [show (n + 720) % 720 = n % 720 by omega]
theorem cosI_at {n r : Int} (h : n % 720 = r) : cosI n = if r ≤ 180 then cosQ r else if r ≤ 540 then -cosQ (if r ≤ 360 then 360 - r else r - 360) else cosQ (720 - r) := by rw [cosI, h]
theorem cosQ_180 : cosQ 180 = 0 := rfl
theorem cosI_a {n r : Int} (h : n % 720 = r) (h1 : r ≤ 180) : cosI n = cosQ r := by rw [cosI_at h, if_pos h1]
theorem cosI_b {n r : Int} (h : n % 720 = r) (h1 : 180 < r) (h2 : r ≤ 360) : cosI n = -cosQ (360 - r) := by rw [cosI_at h, if_neg (by omega), if_pos (by omega), if_pos h2]
theorem cosI_c {n r : Int} (h : n % 720 = r) (h1 : 360 < r) (h2 : r ≤ 540) : cosI n = -cosQ (r - 360) := by rw [cosI_at h, if_neg (by omega), if_pos h2, if_neg (by omega)]
theorem cosI_d {n r : Int} (h : n % 720 = r) (h1 : 540 < r) : cosI n = cosQ (720 - r) := by rw [cosI_at h, if_neg (by omega), if_neg (by omega)]
theorem cosI_half (n : Int) : cosI (n + 360) = -cosI n := by
  obtain ⟨r, hr⟩ : ∃ r, n % 720 = r := ⟨_, rfl⟩
  have h0 : 0 ≤ r ∧ r < 720 := by omega
  by_cases a : r ≤ 180
  · rw [cosI_a hr a]
    by_cases e : r = 0
    · rw [cosI_b (n := n + 360) (r := 360) (by omega) (by omega) (by omega)]; subst e; rfl
    · rw [cosI_c (n := n + 360) (r := r + 360) (by omega) (by omega) (by omega), show r + 360 - 360 = r by omega]
  by_cases b : r ≤ 360
  · rw [cosI_b hr (by omega) b]
    by_cases e : r = 360
    · rw [cosI_a (n := n + 360) (r := 0) (by omega) (by omega)]; subst e; simp
    · rw [cosI_d (n := n + 360) (r := r + 360) (by omega) (by omega), show 720 - (r + 360) = 360 - r by omega]; omega
  by_cases c : r ≤ 540
  · rw [cosI_c hr (by omega) c, cosI_a (n := n + 360) (r := r - 360) (by omega) (by omega)]; omega
  · rw [cosI_d hr (by omega), cosI_b (n := n + 360) (r := r - 360) (by omega) (by omega) (by omega), show 360 - (r - 360) = 720 - r by omega]
theorem cosI_neg (n : Int) : cosI (-n) = cosI n := by
  obtain ⟨r, hr⟩ : ∃ r, n % 720 = r := ⟨_, rfl⟩
  have h0 : 0 ≤ r ∧ r < 720 := by omega
  by_cases a : r ≤ 180
  · rw [cosI_a hr a]
    by_cases e : r = 0
    · rw [cosI_a (n := -n) (r := 0) (by omega) (by omega), e]
    · by_cases d : r = 180
      · rw [cosI_c (n := -n) (r := 540) (by omega) (by omega) (by omega), d]; rfl
      · rw [cosI_d (n := -n) (r := 720 - r) (by omega) (by omega), show 720 - (720 - r) = r by omega]
  by_cases b : r ≤ 360
  · rw [cosI_b hr (by omega) b]
    by_cases e : r = 360
    · rw [cosI_b (n := -n) (r := 360) (by omega) (by omega) (by omega), e]
    · rw [cosI_c (n := -n) (r := 720 - r) (by omega) (by omega) (by omega), show 720 - r - 360 = 360 - r by omega]
  by_cases c : r < 540
  · rw [cosI_c hr (by omega) (by omega), cosI_b (n := -n) (r := 720 - r) (by omega) (by omega) (by omega), show 360 - (720 - r) = r - 360 by omega]
  · by_cases d : r = 540
    · rw [cosI_c hr (by omega) (by omega), cosI_a (n := -n) (r := 180) (by omega) (by omega), d]; rfl
    · rw [cosI_d hr (by omega), cosI_a (n := -n) (r := 720 - r) (by omega) (by omega)]

/-! ### A cosine and a sine -/
/-- The squares of the table's k-th number and of that of the rest, against the unit's. -/
def pairOk (c s : Int) : Bool := decide (999990000000000000 ≤ c * c + s * s ∧ c * c + s * s ≤ 1000010000000000000)
def tabL : Nat → Int → Int → List Int
  | 0, _, _ => []
  | n + 1, a, b => a :: tabL n b (near (1999923846 * b) 1000000000 - a)
theorem tabL_get : ∀ (n k j : Nat), j < n → (tabL n (cosP k).1 (cosP k).2)[j]? = some (cosR (k + j))
  | 0, _, _, h => by omega
  | n + 1, k, 0, _ => rfl
  | n + 1, k, j + 1, h => by
    have := tabL_get n (k + 1) j (by omega)
    rw [show k + (j + 1) = k + 1 + j by omega]
    exact this
def tab180 : List Int := tabL 180 1000000000 999961923 ++ [0]
theorem tab180_get {k : Nat} (h : k ≤ 180) : tab180.getD k 0 = cosQ k := by
  have hl : ∀ (n : Nat) (a b : Int), (tabL n a b).length = n := by
    intro n
    induction n with
    | zero => intro a b; rfl
    | succ n ih => intro a b; simp [tabL, ih]
  rw [tab180, List.getD_eq_getElem?_getD]
  by_cases e : k = 180
  · subst e
    rw [List.getElem?_append_right (by rw [hl]; omega), hl]
    rfl
  · rw [List.getElem?_append_left (by rw [hl]; omega)]
    have := tabL_get 180 0 k (by omega)
    rw [show tabL 180 1000000000 999961923 = tabL 180 (cosP 0).1 (cosP 0).2 from rfl, this, cosQ, if_neg (by omega)]
    simp
def pairsOk : List Int → List Int → Bool
  | a :: xs, b :: ys => pairOk a b && pairsOk xs ys
  | _, _ => true
theorem pairsOk_run : pairsOk tab180 tab180.reverse = true := by decide +kernel
theorem pairsOk_get : ∀ (xs ys : List Int) (k : Nat), pairsOk xs ys = true → k < xs.length → k < ys.length → pairOk (xs.getD k 0) (ys.getD k 0) = true
  | [], _, _, _, h, _ => by simp at h
  | _ :: _, [], _, _, _, h => by simp at h
  | a :: xs, b :: ys, 0, h, _, _ => by
    simp only [pairsOk, Bool.and_eq_true] at h
    exact h.1
  | a :: xs, b :: ys, k + 1, h, h1, h2 => by
    simp only [pairsOk, Bool.and_eq_true] at h
    simp only [List.length_cons] at h1 h2
    exact pairsOk_get xs ys k h.2 (by omega) (by omega)
theorem tab180_len : tab180.length = 181 := by decide +kernel
theorem cosQ_pair {k : Int} (h0 : 0 ≤ k) (h1 : k ≤ 180) : pairOk (cosQ k) (cosQ (180 - k)) = true := by
  have h := pairsOk_get tab180 tab180.reverse k.toNat pairsOk_run (by rw [tab180_len]; omega) (by rw [List.length_reverse, tab180_len]; omega)
  have e1 := tab180_get (k := k.toNat) (by omega)
  have e2 := tab180_get (k := (180 - k).toNat) (by omega)
  have e3 : tab180.reverse.getD k.toNat 0 = tab180.getD (180 - k).toNat 0 := by
    rw [List.getD_eq_getElem?_getD, List.getElem?_reverse (by rw [tab180_len]; omega), tab180_len, List.getD_eq_getElem?_getD]
    congr 2
    omega
  rw [e1, e3, e2] at h
  rw [show ((k.toNat : Nat) : Int) = k by omega, show (((180 - k).toNat : Nat) : Int) = 180 - k by omega] at h
  exact h
theorem neg_sq (a : Int) : (-a) * (-a) = a * a := by rw [Int.neg_mul_neg]
theorem cosI_pair (n : Int) : 999990000000000000 ≤ cosI n * cosI n + cosI (180 - n) * cosI (180 - n) ∧ cosI n * cosI n + cosI (180 - n) * cosI (180 - n) ≤ 1000010000000000000 := by
  obtain ⟨r, hr⟩ : ∃ r, n % 720 = r := ⟨_, rfl⟩
  have h0 : 0 ≤ r ∧ r < 720 := by omega
  have P : ∀ x y : Int, (0 ≤ x ∧ x ≤ 180 ∧ y = 180 - x) → 999990000000000000 ≤ cosQ x * cosQ x + cosQ y * cosQ y ∧ cosQ x * cosQ x + cosQ y * cosQ y ≤ 1000010000000000000 := fun x y ⟨a, b, c⟩ => by
    subst c; exact of_decide_eq_true (cosQ_pair a b)
  by_cases a : r ≤ 180
  · rw [cosI_a hr a, cosI_a (n := 180 - n) (r := 180 - r) (by omega) (by omega)]
    exact P _ _ ⟨by omega, a, rfl⟩
  by_cases b : r ≤ 360
  · rw [cosI_b hr (by omega) b]
    by_cases e : r = 360
    · rw [cosI_c (n := 180 - n) (r := 540) (by omega) (by omega) (by omega), neg_sq, neg_sq]
      exact P _ _ ⟨by omega, by omega, by omega⟩
    · rw [cosI_d (n := 180 - n) (r := 900 - r) (by omega) (by omega), neg_sq]
      exact P _ _ ⟨by omega, by omega, by omega⟩
  by_cases c : r ≤ 540
  · rw [cosI_c hr (by omega) c]
    by_cases e : r = 540
    · rw [cosI_b (n := 180 - n) (r := 360) (by omega) (by omega) (by omega), neg_sq, neg_sq]
      exact P _ _ ⟨by omega, by omega, by omega⟩
    · rw [cosI_c (n := 180 - n) (r := 900 - r) (by omega) (by omega) (by omega), neg_sq, neg_sq]
      exact P _ _ ⟨by omega, by omega, by omega⟩
  · rw [cosI_d hr (by omega), cosI_b (n := 180 - n) (r := 900 - r) (by omega) (by omega) (by omega), neg_sq]
    exact P _ _ ⟨by omega, by omega, by omega⟩

end Go.Proofs.Ytjfhhdplgacnhaa
