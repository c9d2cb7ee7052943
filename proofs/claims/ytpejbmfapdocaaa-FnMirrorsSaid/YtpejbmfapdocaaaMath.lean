/- Plain arithmetic for this seat, with no program in sight: ranges, rounded division, integer square roots. No condition. -/
namespace Go.Proofs.Ytpejbmfapdocaaa

/-- n lies from lo to hi; a Bool that no tactic takes apart. -/
def inB (n lo hi : Int) : Bool := decide (lo ≤ n ∧ n ≤ hi)
theorem inB_t {n lo hi : Int} (h : inB n lo hi = true) : lo ≤ n ∧ n ≤ hi := of_decide_eq_true h
theorem inB_f {n lo hi : Int} (h : inB n lo hi = false) : ¬ (lo ≤ n ∧ n ≤ hi) := of_decide_eq_false h
theorem inB_mk {n lo hi : Int} (h : lo ≤ n ∧ n ≤ hi) : inB n lo hi = true := decide_eq_true h
theorem inB_no {n lo hi : Int} (h : ¬ (lo ≤ n ∧ n ≤ hi)) : inB n lo hi = false := decide_eq_false h

/-- The two numbers are the ends of an interval. -/
def isIv (lo hi : Int) : Bool := inB lo (-1000000000) 1000000000 && inB hi lo 1000000000
theorem isIv_t {lo hi : Int} (h : isIv lo hi = true) : -1000000000 ≤ lo ∧ lo ≤ hi ∧ hi ≤ 1000000000 := by
  simp only [isIv, Bool.and_eq_true] at h
  have h1 := inB_t h.1
  have h2 := inB_t h.2
  omega
theorem isIv_mk {lo hi : Int} (h : -1000000000 ≤ lo ∧ lo ≤ hi ∧ hi ≤ 1000000000) : isIv lo hi = true := by
  simp only [isIv, Bool.and_eq_true]
  exact ⟨inB_mk (by omega), inB_mk (by omega)⟩
theorem isIv_f {lo hi : Int} (h : isIv lo hi = false) : ¬ (-1000000000 ≤ lo ∧ lo ≤ hi ∧ hi ≤ 1000000000) := fun k => by
  rw [isIv_mk k] at h; cases h

/-- The integer nearest to a / b, b positive; of two the greater one. -/
def near (a b : Int) : Int := (2 * a + b) / (2 * b)
theorem near_bounds {a b : Int} (hb : 0 < b) : 2 * a - b < 2 * b * near a b ∧ 2 * b * near a b ≤ 2 * a + b := by
  unfold near
  have h1 := Int.mul_ediv_self_le (x := 2 * a + b) (k := 2 * b) (by omega)
  have h2 := Int.lt_mul_ediv_self_add (x := 2 * a + b) (k := 2 * b) (by omega)
  omega

/-- The greatest number whose square is at most n. -/
def isq : Nat → Nat
  | 0 => 0
  | n + 1 => if (isq n + 1) * (isq n + 1) ≤ n + 1 then isq n + 1 else isq n
theorem isq_spec : ∀ n : Nat, isq n * isq n ≤ n ∧ n < (isq n + 1) * (isq n + 1)
  | 0 => by simp [isq]
  | n + 1 => by
    obtain ⟨h1, h2⟩ := isq_spec n
    rw [isq]
    split
    · rename_i h
      refine ⟨h, ?_⟩
      have e : (isq n + 1 + 1) * (isq n + 1 + 1) = (isq n + 1) * (isq n + 1) + 2 * (isq n + 1) + 1 := by
        simp only [Nat.mul_add, Nat.add_mul]; omega
      omega
    · rename_i h
      exact ⟨by omega, by omega⟩
theorem sq_lt_sq {a b : Nat} (h : a < b) : (a + 1) * (a + 1) ≤ b * b := Nat.mul_le_mul h h
theorem isq_unique {n r : Nat} (h1 : r * r ≤ n) (h2 : n < (r + 1) * (r + 1)) : r = isq n := by
  obtain ⟨k1, k2⟩ := isq_spec n
  rcases Nat.lt_trichotomy r (isq n) with h | h | h
  · have := sq_lt_sq h; omega
  · exact h
  · have := sq_lt_sq h; omega
theorem isq_unique_int {n r : Int} (hn : 0 ≤ n) (hr : 0 ≤ r) (h1 : r * r ≤ n) (h2 : n < (r + 1) * (r + 1)) : r = (isq n.toNat : Int) := by
  obtain ⟨m, rfl⟩ := Int.eq_ofNat_of_zero_le hn
  obtain ⟨q, rfl⟩ := Int.eq_ofNat_of_zero_le hr
  have := isq_unique (n := m) (r := q) (by exact_mod_cast h1) (by exact_mod_cast h2)
  rw [Int.toNat_natCast, this]
theorem isq_mono {a b : Nat} (h : a ≤ b) : isq a ≤ isq b := by
  obtain ⟨h1, _⟩ := isq_spec a
  obtain ⟨_, h2⟩ := isq_spec b
  rcases Nat.lt_or_ge (isq b) (isq a) with k | k
  · have := sq_lt_sq k; omega
  · exact k
theorem isq_le_of {n r : Nat} (h : n < (r + 1) * (r + 1)) : isq n ≤ r := by
  obtain ⟨h1, _⟩ := isq_spec n
  rcases Nat.lt_or_ge r (isq n) with k | k
  · have := sq_lt_sq k; omega
  · exact k
theorem le_isq_of {n r : Nat} (h : r * r ≤ n) : r ≤ isq n := by
  obtain ⟨_, h1⟩ := isq_spec n
  rcases Nat.lt_or_ge (isq n) r with k | k
  · have := sq_lt_sq k; omega
  · exact k

theorem mul_bd {x n A B : Int} (hx : -A ≤ x ∧ x ≤ A) (hn : -B ≤ n ∧ n ≤ B) : -(A * B) ≤ x * n ∧ x * n ≤ A * B := by
  have h1 : (x * n).natAbs ≤ (A * B).natAbs := by
    rw [Int.natAbs_mul, Int.natAbs_mul]
    exact Nat.mul_le_mul (by omega) (by omega)
  have h2 : 0 ≤ A * B := Int.mul_nonneg (by omega) (by omega)
  omega
theorem sq_bd {x A : Int} (hx : 0 ≤ x ∧ x ≤ A) : 0 ≤ x * x ∧ x * x ≤ A * A :=
  ⟨Int.mul_nonneg hx.1 hx.1, Int.mul_le_mul hx.2 hx.2 hx.1 (by omega)⟩

/-- The square root rounded up. -/
def isqUp (n : Nat) : Nat := if isq n * isq n < n then isq n + 1 else isq n

end Go.Proofs.Ytpejbmfapdocaaa
