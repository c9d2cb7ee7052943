/- Plain laws of points and distances. Conditions: those that each theorem names. -/
import Derived.Test.YtjfhhdplgacnhaaAngL
namespace Go.Proofs.Ytjfhhdplgacnhaa
open Go.RowKit

theorem sq_le_sq {a b : Int} (h0 : 0 ≤ a) (h : a ≤ b) : a * a ≤ b * b := Int.mul_le_mul h h h0 (by omega)
theorem sq_nn (a : Int) : 0 ≤ a * a := by
  rcases Int.le_total 0 a with h | h
  · exact Int.mul_nonneg h h
  · exact Int.mul_nonneg_of_nonpos_of_nonpos h h
/-- Twice the unit times the nearest number, against twice the product: no further than the unit. -/
theorem near_gap (p : Int) : -1000000000 ≤ 2000000000 * near p 1000000000 - 2 * p ∧ 2000000000 * near p 1000000000 - 2 * p ≤ 1000000000 := by
  have := near_bounds (a := p) (b := 1000000000) (by omega)
  omega
theorem sq_sum (u d : Int) : (u + d) * (u + d) = u * u + 2 * (u * d) + d * d := by
  rw [Int.mul_add, Int.add_mul, Int.add_mul, Int.mul_comm d u]
  omega
theorem mul4 (a b c d : Int) : (a * b) * (c * d) = (a * c) * (b * d) := by rw [Int.mul_assoc, Int.mul_assoc, Int.mul_left_comm b c d]
theorem mul_in {x n A B : Int} (hx : -A ≤ x ∧ x ≤ A) (hn : -B ≤ n ∧ n ≤ B) : -(A * B) ≤ x * n ∧ x * n ≤ A * B := mul_bd hx hn
/-- One coordinate, squared and put on the common measure. -/
theorem one_side {a c : Int} (ha : 0 ≤ a ∧ a ≤ 10000) (hc : -1000000000 ≤ c ∧ c ≤ 1000000000) :
    ∃ t e : Int, 4000000000000000000 * (near (a * c) 1000000000 * near (a * c) 1000000000) = 4 * ((a * a) * (c * c)) + 4 * t + e ∧ -(1000000000000000000 * a) ≤ t ∧ t ≤ 1000000000000000000 * a ∧ 0 ≤ e ∧ e ≤ 1000000000000000000 := by
  obtain ⟨g1, g2⟩ := near_gap (a * c)
  generalize near (a * c) 1000000000 = x at *
  obtain ⟨d, hd⟩ : ∃ d, 2000000000 * x - 2 * (a * c) = d := ⟨_, rfl⟩
  rw [hd] at g1 g2
  have e0 : 2000000000 * x = 2 * (a * c) + d := by omega
  have e1 := sq_sum (2 * (a * c)) d
  rw [← e0] at e1
  have e2 : (2000000000 * x) * (2000000000 * x) = 4000000000000000000 * (x * x) := by rw [mul4]; rfl
  have e3 : (2 * (a * c)) * (2 * (a * c)) = 4 * ((a * a) * (c * c)) := by rw [mul4, mul4 a c a c]; rfl
  have e4 : 2 * (a * c) * d = 2 * (a * (c * d)) := by rw [Int.mul_assoc, Int.mul_assoc]
  have hcd := mul_in hc (n := d) (B := 1000000000) ⟨by omega, by omega⟩
  have hl := Int.mul_le_mul_of_nonneg_left hcd.1 ha.1
  have hh := Int.mul_le_mul_of_nonneg_left hcd.2 ha.1
  have hdd := mul_in (x := d) (A := 1000000000) (n := d) (B := 1000000000) ⟨by omega, by omega⟩ ⟨by omega, by omega⟩
  have hd0 := sq_nn d
  rw [e2, e3, e4] at e1
  refine ⟨a * (c * d), d * d, by omega, ?_, ?_, hd0, by omega⟩
  · generalize a * (c * d) = t at *
    omega
  · generalize a * (c * d) = t at *
    omega
theorem point_far {a n : Int} (ha : 0 ≤ a ∧ a ≤ 10000) :
    near (a * cosI n) 1000000000 * near (a * cosI n) 1000000000 + near (a * cosI (180 - n)) 1000000000 * near (a * cosI (180 - n)) 1000000000 ≤ (a + 2) * (a + 2) ∧
    max 0 (a - 2) * max 0 (a - 2) ≤ near (a * cosI n) 1000000000 * near (a * cosI n) 1000000000 + near (a * cosI (180 - n)) 1000000000 * near (a * cosI (180 - n)) 1000000000 := by
  obtain ⟨p1, p2⟩ := cosI_pair n
  obtain ⟨t1, e1, h1, h2, h3, h4, h5⟩ := one_side ha (cosI_bd n)
  obtain ⟨t2, e2, k1, k2, k3, k4, k5⟩ := one_side ha (cosI_bd (180 - n))
  have hq : 0 ≤ a * a := sq_nn a
  have hqa : a * a ≤ 10000 * a := Int.mul_le_mul_of_nonneg_right ha.2 ha.1
  have hx0 := sq_nn (near (a * cosI n) 1000000000)
  have hy0 := sq_nn (near (a * cosI (180 - n)) 1000000000)
  have m1 := Int.mul_le_mul_of_nonneg_left p1 hq
  have m2 := Int.mul_le_mul_of_nonneg_left p2 hq
  rw [Int.mul_add] at m1 m2
  generalize near (a * cosI n) 1000000000 * near (a * cosI n) 1000000000 = xx at *
  generalize near (a * cosI (180 - n)) 1000000000 * near (a * cosI (180 - n)) 1000000000 = yy at *
  generalize a * a * (cosI n * cosI n) = u1 at *
  generalize a * a * (cosI (180 - n) * cosI (180 - n)) = u2 at *
  have s1 : (a + 2) * (a + 2) = a * a + 4 * a + 4 := by rw [sq_sum]; omega
  refine ⟨?_, ?_⟩
  · rw [s1]
    generalize a * a = q at *
    omega
  · by_cases h : a ≤ 2
    · rw [show max 0 (a - 2) = 0 by omega]
      omega
    · rw [show max 0 (a - 2) = a + -2 by omega, sq_sum]
      generalize a * a = q at *
      omega
/-- Both squares of the difference and of the sum of two radii, around the square of the distance. -/
theorem sqI_between {a b n : Int} (ha : 0 ≤ a ∧ a ≤ 10000) (hb : 0 ≤ b ∧ b ≤ 10000) : (a - b) * (a - b) ≤ sqI a b n ∧ sqI a b n ≤ (a + b) * (a + b) := by
  have hc := cosI_bd n
  have hab : 0 ≤ 2 * a * b := Int.mul_nonneg (by omega) hb.1
  have m1 := Int.mul_le_mul_of_nonneg_left hc.1 hab
  have m2 := Int.mul_le_mul_of_nonneg_left hc.2 hab
  have s1 : (a + b) * (a + b) = a * a + 2 * a * b + b * b := by rw [sq_sum, Int.mul_assoc]
  have s2 : (a - b) * (a - b) = a * a - 2 * a * b + b * b := by
    rw [show a - b = a + -b by omega, sq_sum, Int.mul_neg, Int.neg_mul_neg, Int.mul_assoc]
    omega
  rw [s1, s2]
  unfold sqI near
  generalize 2 * a * b * cosI n = t at *
  generalize 2 * a * b = p at *
  omega
theorem sqI_swap (a b n : Int) : sqI b a (-n) = sqI a b n := by
  unfold sqI
  rw [cosI_neg, Int.mul_assoc 2 b a, Int.mul_comm b a, ← Int.mul_assoc 2 a b]
  omega
theorem rootN_between {a b m : Int} (ha : 0 ≤ a) (hb : 0 ≤ b) (h1 : a * a ≤ m) (h2 : m ≤ b * b) : a ≤ rootN m ∧ rootN m ≤ b + 1 := by
  have hm : 0 ≤ m := Int.le_trans (sq_nn a) h1
  have l1 := le_isqI hm ha h1
  have l2 := isqI_le (r := b) hm hb (by
    have : (b + 1) * (b + 1) = b * b + 2 * b + 1 := by rw [sq_sum]; omega
    omega)
  unfold rootN
  rw [if_neg (by omega)]
  split <;> omega
theorem firstUp_get {f : Int → Bool} : ∀ {m : Nat} {k j : Int}, firstUp f m k = (j, 0) → f j = true ∧ k ≤ j ∧ j < k + m ∧ ∀ i, k ≤ i → i < j → f i = false
  | 0, k, j, h => by simp [firstUp] at h
  | m + 1, k, j, h => by
    rw [firstUp] at h
    split at h
    · rename_i hf
      simp only [Prod.mk.injEq, and_true] at h
      subst h
      exact ⟨hf, Int.le_refl _, by omega, fun i h1 h2 => by omega⟩
    · rename_i hf
      obtain ⟨g1, g2, g3, g4⟩ := firstUp_get h
      refine ⟨g1, by omega, by omega, fun i h1 h2 => ?_⟩
      by_cases e : i = k
      · rw [e]; simpa using hf
      · exact g4 i (by omega) h2
theorem firstUp_code {f : Int → Bool} : ∀ (m : Nat) (k : Int), (firstUp f m k).2 = 0 ∨ (firstUp f m k).2 = 4
  | 0, _ => .inr rfl
  | m + 1, k => by
    rw [firstUp]
    split
    · exact .inl rfl
    · exact firstUp_code m (k + 1)

end Go.Proofs.Ytjfhhdplgacnhaa
