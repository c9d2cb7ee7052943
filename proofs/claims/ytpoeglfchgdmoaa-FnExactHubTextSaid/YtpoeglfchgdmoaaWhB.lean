/- Contracts on wheels: whether they are one, their most crosses. Conditions: those that each theorem names. -/
import Derived.Test.YtpoeglfchgdmoaaWhA
namespace Go.Proofs.Ytpoeglfchgdmoaa
open Go.RowKit

def wheelB (h l r lo ro rh rd rf cr : Int) : Bool := hubB h l r lo ro && (rimB rh rd rf && (decide (h = rh) && inB cr 0 (h / 4 - 1)))
theorem wheelB_t {h l r lo ro rh rd rf cr : Int} (k : wheelB h l r lo ro rh rd rf cr = true) : hubB h l r lo ro = true ∧ rimB rh rd rf = true ∧ h = rh ∧ (0 ≤ cr ∧ cr ≤ h / 4 - 1) := by
  simp only [wheelB, Bool.and_eq_true, decide_eq_true_eq] at k
  exact ⟨k.1, k.2.1, k.2.2.1, inB_t k.2.2.2⟩
theorem holes_bd {n : Int} (h : holesB n = true) : 12 ≤ n ∧ n ≤ 48 := by
  have := holesB_t h
  omega
theorem nine_held {X Y : World} {g : Nat} {v0 v1 v2 v3 v4 v5 v6 v7 v8 : Value} (c : ∀ i, X.cell? ⟨g, i, none⟩ = #[v0, v1, v2, v3, v4, v5, v6, v7, v8][i]?) (h : Below X.heap.size X Y) :
    Y.cell? ⟨g, 0, none⟩ = some v0 ∧ Y.cell? ⟨g, 1, none⟩ = some v1 ∧ Y.cell? ⟨g, 2, none⟩ = some v2 ∧ Y.cell? ⟨g, 3, none⟩ = some v3 ∧ Y.cell? ⟨g, 4, none⟩ = some v4 ∧ Y.cell? ⟨g, 5, none⟩ = some v5 ∧ Y.cell? ⟨g, 6, none⟩ = some v6 ∧ Y.cell? ⟨g, 7, none⟩ = some v7 ∧ Y.cell? ⟨g, 8, none⟩ = some v8 ∧ Below X.heap.size X Y := by
  have k := cell_kept h (lt_cell c (by simp)) c
  exact ⟨by rw [k]; rfl, by rw [k]; rfl, by rw [k]; rfl, by rw [k]; rfl, by rw [k]; rfl, by rw [k]; rfl, by rw [k]; rfl, by rw [k]; rfl, by rw [k]; rfl, h⟩

theorem impl_IsHub_at {h l r lo ro : Int} {b : Bool} (k : hubB h l r lo ro = b) (w : World) : Calls Try.prog 36 #[.agg #[.int .i64 h, .int .i64 l, .int .i64 r, .int .i64 lo, .int .i64 ro]] w fun e w' => e = .returned (.bool b) ∧ Below w.heap.size w w' := by
  subst k; exact impl_IsHub h l r lo ro w
theorem impl_within_at {n lo hi : Int} {b : Bool} (k : inB n lo hi = b) (w : World) : Calls Try.prog 56 #[.int .i64 n, .int .i64 lo, .int .i64 hi] w fun e w' => e = .returned (.bool b) ∧ w = w' := by
  subst k; exact impl_within n lo hi w

end Go.Proofs.Ytpoeglfchgdmoaa
