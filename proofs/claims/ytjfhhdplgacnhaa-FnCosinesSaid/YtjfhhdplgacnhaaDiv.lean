/- Contracts of the rounded divisions. Conditions: the divisor is at least 1, and the sizes that each theorem names. -/
import Derived.Test.YtjfhhdplgacnhaaBase
import Derived.Test.YtjfhhdplgacnhaaCos
namespace Go.Proofs.Ytjfhhdplgacnhaa
open Go.RowKit

set_option maxHeartbeats 400000 in
theorem impl_floorDiv (a b : Int) (hb1 : 1 ≤ b) (hb2 : b ≤ 100000000000) (ha1 : -9000000000000000000 ≤ a) (ha2 : a ≤ 9000000000000000000) (w : World) :
    Calls Try.prog 33 #[.int .i64 a, .int .i64 b] w fun e w' => e = .returned (.int .i64 (a / b)) ∧ w = w' := by
  rcases Int.lt_or_le a 0 with h | h
  · obtain ⟨k1, k2, k3, k4, k5, k6, _, _⟩ := tdiv_facts h (show 0 < b by omega)
    rcases Int.lt_or_le (a.tmod b) 0 with h1 | h1
    all_goals
      go_enter Try.func33, Try.ntmps33
      go_wp2
      go_ret
    · first | exact ⟨rfl, rfl⟩ | exact ⟨reti (k1 h1), rfl⟩
    · first | exact ⟨rfl, rfl⟩ | exact ⟨reti (k2 h1), rfl⟩
  · have h1 := Int.emod_nonneg a (show b ≠ 0 by omega)
    go_enter Try.func33, Try.ntmps33
    go_wp2
    go_ret
    exact ⟨rfl, rfl⟩
set_option maxHeartbeats 400000 in
theorem spec_Floor (a b : Int) (hb1 : 1 ≤ b) (hb2 : b ≤ 100000000000) (ha1 : -9000000000000000000 ≤ a) (ha2 : a ≤ 9000000000000000000) (w : World) :
    Calls Try.prog 35 #[.int .i64 a, .int .i64 b] w fun e w' => e = .returned (.int .i64 (a / b)) ∧ w = w' := by
  rcases Int.lt_or_le a 0 with h | h
  · obtain ⟨k1, k2, k3, k4, k5, k6, _, _⟩ := tdiv_facts h (show 0 < b by omega)
    rcases Int.lt_or_le (a.tmod b) 0 with h1 | h1
    all_goals
      go_enter Try.func35, Try.ntmps35
      go_wp2
      go_ret
    · first | exact ⟨rfl, rfl⟩ | exact ⟨reti (k1 h1), rfl⟩
    · first | exact ⟨rfl, rfl⟩ | exact ⟨reti (k2 h1), rfl⟩
  · have h1 := Int.emod_nonneg a (show b ≠ 0 by omega)
    go_enter Try.func35, Try.ntmps35
    go_wp2
    go_ret
    exact ⟨rfl, rfl⟩
set_option maxHeartbeats 400000 in
theorem impl_floorMod (a b : Int) (hb1 : 1 ≤ b) (hb2 : b ≤ 100000000000) (ha1 : -9000000000000000000 ≤ a) (ha2 : a ≤ 9000000000000000000) (w : World) :
    Calls Try.prog 34 #[.int .i64 a, .int .i64 b] w fun e w' => e = .returned (.int .i64 (a % b)) ∧ w = w' := by
  rcases Int.lt_or_le a 0 with h | h
  · obtain ⟨_, _, k3, k4, k5, k6, k1, k2⟩ := tdiv_facts h (show 0 < b by omega)
    rcases Int.lt_or_le (a.tmod b) 0 with h1 | h1
    all_goals
      go_enter Try.func34, Try.ntmps34
      go_wp2
      go_ret
    · first | exact ⟨rfl, rfl⟩ | exact ⟨reti (k1 h1), rfl⟩
    · first | exact ⟨rfl, rfl⟩ | exact ⟨reti (k2 h1), rfl⟩
  · have h1 := Int.emod_nonneg a (show b ≠ 0 by omega)
    go_enter Try.func34, Try.ntmps34
    go_wp2
    go_ret
    exact ⟨rfl, rfl⟩
theorem mod_twice {a b : Int} (hb : 0 < b) (h : a < 0) : (a.tmod b + b) % b = a % b := by
  obtain ⟨_, _, _, _, k5, k6, k1, k2⟩ := tdiv_facts h hb
  rcases Int.lt_or_le (a.tmod b) 0 with h1 | h1
  · rw [k1 h1, Int.emod_emod]
  · rw [k2 h1, Int.add_emod_right, Int.emod_emod]
set_option maxHeartbeats 400000 in
theorem spec_Mod (a b : Int) (hb1 : 1 ≤ b) (hb2 : b ≤ 100000000000) (ha1 : -9000000000000000000 ≤ a) (ha2 : a ≤ 9000000000000000000) (w : World) :
    Calls Try.prog 36 #[.int .i64 a, .int .i64 b] w fun e w' => e = .returned (.int .i64 (a % b)) ∧ w = w' := by
  rcases Int.lt_or_le a 0 with h | h
  · obtain ⟨_, _, k3, k4, k5, k6, k1, k2⟩ := tdiv_facts h (show 0 < b by omega)
    go_enter Try.func36, Try.ntmps36
    go_wp2
    go_ret
    exact ⟨reti (mod_twice (by omega) h), rfl⟩
  · have h1 := Int.emod_nonneg a (show b ≠ 0 by omega)
    have h2 := Int.emod_lt_of_pos a (show 0 < b by omega)
    go_enter Try.func36, Try.ntmps36
    go_wp2
    go_ret
    exact ⟨reti (by first | (rw [Int.add_emod_right, Int.emod_emod]; done) | simp), rfl⟩
set_option maxHeartbeats 400000 in
theorem impl_nearest (a b : Int) (hb1 : 1 ≤ b) (hb2 : b ≤ 10000000000) (ha1 : -4000000000000000000 ≤ a) (ha2 : a ≤ 4000000000000000000) (w : World) :
    Calls Try.prog 39 #[.int .i64 a, .int .i64 b] w fun e w' => e = .returned (.int .i64 (near a b)) ∧ w = w' := by
  go_enter Try.func39, Try.ntmps39
  go_wp2_with fail
  refine (impl_floorDiv _ _ (by omega) (by omega) (by omega) (by omega) _).mono ?_
  rintro e w1 ⟨rfl, rfl⟩
  go_wp2_with fail
  go_ret
  exact ⟨rfl, rfl⟩
set_option maxHeartbeats 400000 in
theorem spec_Nearest (a b : Int) (hb1 : 1 ≤ b) (hb2 : b ≤ 10000000000) (ha1 : -4000000000000000000 ≤ a) (ha2 : a ≤ 4000000000000000000) (w : World) :
    Calls Try.prog 41 #[.int .i64 a, .int .i64 b] w fun e w' => e = .returned (.int .i64 (near a b)) ∧ w = w' := by
  go_enter Try.func41, Try.ntmps41
  go_wp2_with fail
  refine (spec_Floor _ _ (by omega) (by omega) (by omega) (by omega) _).mono ?_
  rintro e w1 ⟨rfl, rfl⟩
  go_wp2_with fail
  go_ret
  exact ⟨rfl, rfl⟩

end Go.Proofs.Ytjfhhdplgacnhaa
