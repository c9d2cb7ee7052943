/- Plain facts on rounded division and on the table of cosines, with no program in sight. No condition. -/
import Derived.Test.YtjfhhdplgacnhaaMath
namespace Go.Proofs.Ytjfhhdplgacnhaa

/-! ### Go's own division against the rounded one -/
theorem tdiv_facts {a b : Int} (ha : a < 0) (hb : 0 < b) : (a.tmod b < 0 → a.tdiv b - 1 = a / b) ∧ (0 ≤ a.tmod b → a.tdiv b = a / b) ∧ a ≤ a.tdiv b ∧ a.tdiv b ≤ 0 ∧ -b < a.tmod b ∧ a.tmod b ≤ 0 ∧ (a.tmod b < 0 → a.tmod b + b = a % b) ∧ (0 ≤ a.tmod b → a.tmod b = a % b) := by
  obtain ⟨m, rfl⟩ : ∃ m, a = -m := ⟨-a, by omega⟩
  have h1 : (-m).tdiv b = -(m / b) := by rw [Int.neg_tdiv, Int.tdiv_eq_ediv_of_nonneg (by omega)]
  have h2 : (-m).tmod b = -(m % b) := by rw [Int.neg_tmod, Int.tmod_eq_emod_of_nonneg (by omega)]
  rw [h1, h2]
  have e1 := Int.mul_ediv_add_emod m b
  have e2 := Int.emod_nonneg m (show b ≠ 0 by omega)
  have e3 := Int.emod_lt_of_pos m hb
  have e4 := Int.mul_ediv_add_emod (-m) b
  have e5 := Int.emod_nonneg (-m) (show b ≠ 0 by omega)
  have e6 := Int.emod_lt_of_pos (-m) hb
  have e7 : 0 ≤ m / b := Int.ediv_nonneg (by omega) (by omega)
  have e8 : m / b ≤ m := Int.ediv_le_self _ (by omega)
  have key : ∀ q r : Int, b * q + r = -m → 0 ≤ r → r < b → q = -m / b ∧ r = -m % b := fun q r h k1 k2 => by
    have hq : -m / b = q := by
      rw [← h, Int.add_comm, Int.add_mul_ediv_left _ _ (by omega), Int.ediv_eq_zero_of_lt k1 k2, Int.zero_add]
    refine ⟨hq.symm, ?_⟩
    rw [hq] at e4
    omega
  refine ⟨fun h => ?_, fun h => ?_, by omega, by omega, by omega, by omega, fun h => ?_, fun h => ?_⟩
  · exact (key (-(m / b) - 1) (b - m % b) (by rw [Int.mul_sub, Int.mul_neg]; omega) (by omega) (by omega)).1
  · exact (key (-(m / b)) 0 (by rw [Int.mul_neg]; omega) (by omega) (by omega)).1
  · have := (key (-(m / b) - 1) (b - m % b) (by rw [Int.mul_sub, Int.mul_neg]; omega) (by omega) (by omega)).2
    omega
  · have := (key (-(m / b)) 0 (by rw [Int.mul_neg]; omega) (by omega) (by omega)).2
    omega
theorem ediv_bd {a b : Int} (hb : 0 < b) : (0 ≤ a → 0 ≤ a / b ∧ a / b ≤ a) ∧ (a < 0 → a ≤ a / b ∧ a / b < 0) := by
  have e1 := Int.mul_ediv_add_emod a b
  have e2 := Int.emod_nonneg a (show b ≠ 0 by omega)
  have e3 := Int.emod_lt_of_pos a hb
  refine ⟨fun h => ⟨Int.ediv_nonneg h (by omega), Int.ediv_le_self _ h⟩, fun h => ?_⟩
  have h1 : a / b < 0 := Int.ediv_neg_of_neg_of_pos h hb
  refine ⟨?_, h1⟩
  have : b * (a / b) ≤ 1 * (a / b) := Int.mul_le_mul_of_nonpos_right (by omega) (by omega)
  have e4 : a < b * (a / b) + b := by omega
  rcases Int.lt_or_le (a / b) a with h2 | h2
  · exfalso
    have h3 : b * (a / b) ≤ b * (a - 1) := Int.mul_le_mul_of_nonneg_left (by omega) (by omega)
    rw [Int.mul_sub] at h3
    have h4 : b * a ≤ 1 * a := Int.mul_le_mul_of_nonpos_right (by omega) (by omega)
    omega
  · exact h2

/-! ### The table -/
/-- Two neighbours of the table, by the recurrence. -/
def cosP : Nat → Int × Int
  | 0 => (1000000000, 999961923)
  | k + 1 => ((cosP k).2, near (1999923846 * (cosP k).2) 1000000000 - (cosP k).1)
def cosR (k : Nat) : Int := (cosP k).1
theorem cosR_two (k : Nat) : cosR (k + 2) = near (1999923846 * cosR (k + 1)) 1000000000 - cosR k := rfl
theorem cosR_zero : cosR 0 = 1000000000 := rfl
theorem cosR_one : cosR 1 = 999961923 := rfl
/-- The whole table is checked at one go. -/
def okAll : Nat → Int → Int → Bool
  | 0, _, _ => true
  | n + 1, a, b => decide (-1000000000 ≤ a ∧ a ≤ 1000000000) && okAll n b (near (1999923846 * b) 1000000000 - a)
theorem okAll_run : okAll 182 1000000000 999961923 = true := by decide +kernel
theorem okAll_get : ∀ (n k j : Nat), okAll n (cosP k).1 (cosP k).2 = true → j < n → -1000000000 ≤ cosR (k + j) ∧ cosR (k + j) ≤ 1000000000
  | 0, _, _, _, h => by omega
  | n + 1, k, 0, h, _ => by
    simp only [okAll, Bool.and_eq_true] at h
    exact of_decide_eq_true h.1
  | n + 1, k, j + 1, h, hj => by
    simp only [okAll, Bool.and_eq_true] at h
    have := okAll_get n (k + 1) j h.2 (by omega)
    rw [show k + (j + 1) = k + 1 + j by omega]
    exact this
theorem cosR_bd {k : Nat} (h : k ≤ 181) : -1000000000 ≤ cosR k ∧ cosR k ≤ 1000000000 := by
  have := okAll_get 182 0 k okAll_run (by omega)
  rwa [Nat.zero_add] at this

/-- The table as it is used: 0 at 180. -/
def cosQ (k : Int) : Int := if k = 180 then 0 else cosR k.toNat
theorem cosQ_bd {k : Int} (h : k ≤ 180) : -1000000000 ≤ cosQ k ∧ cosQ k ≤ 1000000000 := by
  unfold cosQ
  split
  · omega
  · exact cosR_bd (by omega)
/-- The cosine of any number of steps. -/
def cosI (n : Int) : Int :=
  if n % 720 ≤ 180 then cosQ (n % 720) else if n % 720 ≤ 540 then -cosQ (if n % 720 ≤ 360 then 360 - n % 720 else n % 720 - 360) else cosQ (720 - n % 720)
theorem cosI_bd (n : Int) : -1000000000 ≤ cosI n ∧ cosI n ≤ 1000000000 := by
  unfold cosI
  split
  · exact cosQ_bd (by omega)
  · split
    · have := @cosQ_bd (if n % 720 ≤ 360 then 360 - n % 720 else n % 720 - 360) (by split <;> omega)
      omega
    · exact cosQ_bd (by omega)

theorem near_bd {a : Int} (h : -400000000000000000 ≤ a ∧ a ≤ 400000000000000000) : -400000001 ≤ near a 1000000000 ∧ near a 1000000000 ≤ 400000001 := by
  unfold near; omega
theorem near_bd9 {a : Int} (h : -4000000000000000000 ≤ a ∧ a ≤ 4000000000000000000) : -4000000001 ≤ near a 1000000000 ∧ near a 1000000000 ≤ 4000000001 := by
  unfold near; omega

/-- The square of the distance of two points. -/
def sqI (a b n : Int) : Int := a * a + b * b - near (2 * a * b * cosI n) 1000000000

end Go.Proofs.Ytjfhhdplgacnhaa
