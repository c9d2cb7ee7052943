/- Contracts of the two integer square roots. Condition: the number is from 0 to 4000000000000000000. -/
import Derived.Test.YtpejbmfapdocaaaBase
namespace Go.Proofs.Ytpejbmfapdocaaa
open Go.RowKit

/-- The square root of an integer, rounded down. -/
def isqI (n : Int) : Int := isq n.toNat
theorem isqI_spec {n : Int} (h : 0 ≤ n) : 0 ≤ isqI n ∧ isqI n * isqI n ≤ n ∧ n < (isqI n + 1) * (isqI n + 1) := by
  obtain ⟨m, rfl⟩ := Int.eq_ofNat_of_zero_le h
  unfold isqI
  rw [Int.toNat_natCast]
  obtain ⟨h1, h2⟩ := isq_spec m
  exact ⟨by omega, by exact_mod_cast h1, by exact_mod_cast h2⟩
theorem isqI_le {n r : Int} (h : 0 ≤ n) (hr : 0 ≤ r) (h2 : n < (r + 1) * (r + 1)) : isqI n ≤ r := by
  obtain ⟨m, rfl⟩ := Int.eq_ofNat_of_zero_le h
  obtain ⟨q, rfl⟩ := Int.eq_ofNat_of_zero_le hr
  unfold isqI
  rw [Int.toNat_natCast]
  have := isq_le_of (n := m) (r := q) (by exact_mod_cast h2)
  omega
theorem le_isqI {n r : Int} (h : 0 ≤ n) (hr : 0 ≤ r) (h2 : r * r ≤ n) : r ≤ isqI n := by
  obtain ⟨m, rfl⟩ := Int.eq_ofNat_of_zero_le h
  obtain ⟨q, rfl⟩ := Int.eq_ofNat_of_zero_le hr
  unfold isqI
  rw [Int.toNat_natCast]
  have := le_isq_of (n := m) (r := q) (by exact_mod_cast h2)
  omega
theorem isqI_mono {a b : Int} (h : a ≤ b) : isqI a ≤ isqI b := by
  unfold isqI
  have := isq_mono (a := a.toNat) (b := b.toNat) (by omega)
  omega
/-- The square root rounded up. -/
def isqU (n : Int) : Int := if isqI n * isqI n < n then isqI n + 1 else isqI n

set_option maxHeartbeats 1000000 in
theorem impl_root (n : Int) (h0 : 0 ≤ n) (h1 : n ≤ 4000000000000000000) (w : World) :
    Calls Try.prog 139 #[.int .i64 n] w fun e w' => e = .returned (.int .i64 (isqI n)) ∧ w = w' := by
  go_enter Try.func139, Try.ntmps139
  go_wp2
  go_loop [3, 4] (fun s3 s4 => ∃ l h : Int, s3 = .int .i64 l ∧ s4 = .int .i64 h ∧ 0 ≤ l ∧ l ≤ h ∧ h ≤ 3037000499 ∧ l * l ≤ n ∧ n < (h + 1) * (h + 1)) (fun s3 s4 => (intOf s4 - intOf s3).toNat)
  case atStart => exact ⟨0, 3037000499, rfl, rfl, by omega, by omega, by omega, by omega, by omega⟩
  case round =>
    obtain ⟨l, h, rfl, rfl, k1, k2, k3, k4, k5⟩ := hrel
    by_cases hlt : l < h
    · have hm := sq_bd (x := (l + h + 1) / 2) (A := 3037000499) ⟨by omega, by omega⟩
      go_wp2
      · go_round
        case rel => exact ⟨_, _, rfl, rfl, by omega, by omega, by omega, by assumption, k5⟩
        case measure => simp [intOf]; omega
      · go_round
        case rel => exact ⟨_, _, rfl, rfl, by omega, by omega, by omega, k4, by rw [Int.sub_add_cancel]; omega⟩
        case measure => simp [intOf]; omega
    · go_wp2
      go_ret
      have hl : l = h := by omega
      subst hl
      exact ⟨reti (isq_unique_int h0 k1 k4 k5), rfl⟩
set_option maxHeartbeats 1000000 in
theorem spec_Root (n : Int) (h0 : 0 ≤ n) (h1 : n ≤ 4000000000000000000) (w : World) :
    Calls Try.prog 140 #[.int .i64 n] w fun e w' => e = .returned (.int .i64 (isqI n)) ∧ w = w' := by
  go_enter Try.func140, Try.ntmps140
  go_wp2
  go_loop [3, 4] (fun s3 s4 => ∃ l h : Int, s3 = .int .i64 l ∧ s4 = .int .i64 h ∧ 0 ≤ l ∧ l < h ∧ h ≤ 2000000001 ∧ l * l ≤ n ∧ n < h * h) (fun s3 s4 => (intOf s4 - intOf s3).toNat)
  case atStart => exact ⟨0, 2000000001, rfl, rfl, by omega, by omega, by omega, by omega, by omega⟩
  case round =>
    obtain ⟨l, h, rfl, rfl, k1, k2, k3, k4, k5⟩ := hrel
    by_cases hlt : l + 1 < h
    · have hm := sq_bd (x := (l + h) / 2) (A := 2000000001) ⟨by omega, by omega⟩
      go_wp2
      · go_round
        case rel => exact ⟨_, _, rfl, rfl, by omega, by omega, by omega, by assumption, k5⟩
        case measure => simp [intOf]; omega
      · go_round
        case rel => exact ⟨_, _, rfl, rfl, by omega, by omega, by omega, k4, by omega⟩
        case measure => simp [intOf]; omega
    · go_wp2
      go_ret
      have hl : h = l + 1 := by omega
      subst hl
      exact ⟨reti (isq_unique_int h0 k1 k4 k5), rfl⟩
set_option maxHeartbeats 1000000 in
theorem spec_RootUp (n : Int) (h0 : 0 ≤ n) (h1 : n ≤ 4000000000000000000) (w : World) :
    Calls Try.prog 141 #[.int .i64 n] w fun e w' => e = .returned (.int .i64 (isqU n)) ∧ w = w' := by
  obtain ⟨k0, k1, k2⟩ := isqI_spec h0
  have k3 := isqI_le h0 (r := 2000000000) (by omega) (by omega)
  have k4 := sq_bd (x := isqI n) (A := 2000000000) ⟨k0, k3⟩
  rcases Int.lt_or_le (isqI n * isqI n) n with h2 | h2
  all_goals
    go_enter Try.func141, Try.ntmps141
    go_wp2_with fail
    refine (spec_Root n h0 h1 _).mono ?_
    rintro e w1 ⟨rfl, rfl⟩
    go_wp2_with fail
    go_ret
  · exact ⟨reti (by rw [isqU, if_pos h2]), rfl⟩
  · exact ⟨reti (by rw [isqU, if_neg (by omega)]), rfl⟩

end Go.Proofs.Ytpejbmfapdocaaa
