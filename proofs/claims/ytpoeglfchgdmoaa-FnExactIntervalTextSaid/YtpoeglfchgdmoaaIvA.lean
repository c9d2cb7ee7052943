/- Contracts of the small functions on intervals. Conditions: those that each theorem names. -/
import Derived.Test.YtpoeglfchgdmoaaBase
namespace Go.Proofs.Ytpoeglfchgdmoaa
open Go.RowKit

/-- The two numbers as an interval, or code 3. -/
def asIv (lo hi : Int) : Int × Int × Int := if isIv lo hi then (lo, hi, 0) else (0, 0, 3)

set_option maxHeartbeats 400000 in
theorem impl_IsInterval (lo hi : Int) (w : World) :
    Calls Try.prog 27 #[.agg #[.int .i64 lo, .int .i64 hi]] w fun e w' => e = .returned (.bool (isIv lo hi)) ∧ Below w.heap.size w w' := by
  rcases h1 : inB lo (-1000000000) 1000000000 with _ | _
  all_goals rcases h2 : inB hi lo 1000000000 with _ | _
  all_goals
    go_enter Try.func27, Try.ntmps27
    go_wp2_with (go_at_call 56; refine (impl_within _ _ _ _).mono ?_; rintro e w' ⟨rfl, rfl⟩)
    go_ret
    exact ⟨by simp [isIv, h1, h2], (Below.refl _ _).alloc (Nat.le_refl _) _⟩
set_option maxHeartbeats 400000 in
theorem spec_IsInterval (lo hi : Int) (w : World) :
    Calls Try.prog 48 #[.agg #[.int .i64 lo, .int .i64 hi]] w fun e w' => e = .returned (.bool (isIv lo hi)) ∧ Below w.heap.size w w' := by
  rcases h1 : inB lo (-1000000000) 1000000000 with _ | _
  all_goals rcases h2 : inB hi lo 1000000000 with _ | _
  all_goals
    go_enter Try.func48, Try.ntmps48
    go_wp2_with (go_at_call 64; refine (spec_In _ _ _ _).mono ?_; rintro e w' ⟨rfl, rfl⟩)
    go_ret
    exact ⟨by simp [isIv, h1, h2], (Below.refl _ _).alloc (Nat.le_refl _) _⟩

end Go.Proofs.Ytpoeglfchgdmoaa
