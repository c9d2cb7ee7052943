/- Contracts of the cosine, the program's and the reference's. Conditions: those that each theorem names. -/
import Derived.Test.YtjfhhdplgacnhaaDiv
namespace Go.Proofs.Ytjfhhdplgacnhaa
open Go.RowKit

set_option maxHeartbeats 1000000 in
theorem impl_firstCosine (n : Int) (h0 : 0 ≤ n) (h1 : n ≤ 180) (w : World) :
    Calls Try.prog 53 #[.int .i64 n] w fun e w' => e = .returned (.int .i64 (cosQ n)) ∧ w = w' := by
  by_cases hn0 : n = 0
  · subst hn0
    go_enter Try.func53, Try.ntmps53
    go_wp2
    go_ret
    exact ⟨rfl, rfl⟩
  by_cases hn1 : n = 180
  · subst hn1
    go_enter Try.func53, Try.ntmps53
    go_wp2
    go_ret
    exact ⟨rfl, rfl⟩
  have t0 : (n == 0) = false := by simp [hn0]
  have t1 : (n == 180) = false := by simp [hn1]
  go_enter Try.func53, Try.ntmps53
  go_wp2_with fail
  go_loop [3, 4, 5] (fun s3 s4 s5 => ∃ j : Nat, (j : Int) + 1 ≤ n ∧ s3 = .int .i64 (cosR j) ∧ s4 = .int .i64 (cosR (j + 1)) ∧ s5 = .int .i64 ((j : Int) + 2)) (fun _ _ s5 => (n + 1 - intOf s5).toNat)
  case atStart => exact ⟨0, by omega, rfl, rfl, rfl⟩
  case round =>
    obtain ⟨j, hj, rfl, rfl, rfl⟩ := hrel
    have b1 := cosR_bd (k := j) (by omega)
    have b2 := cosR_bd (k := j + 1) (by omega)
    have b3 := cosR_bd (k := j + 2) (by omega)
    by_cases hlt : (j : Int) + 2 ≤ n
    · have HR := Lib.hid (cosR_two j)
      have b4 : -4000000001 ≤ near (1999923846 * cosR (j + 1)) 1000000000 ∧ near (1999923846 * cosR (j + 1)) 1000000000 ≤ 4000000001 := near_bd9 ⟨by omega, by omega⟩
      go_wp2_with (go_at_call 39; refine (impl_nearest _ _ (by omega) (by omega) (by omega) (by omega) _).mono ?_; rintro e w' ⟨rfl, rfl⟩)
      go_round
      case rel => exact ⟨j + 1, by omega, rfl, by rw [HR.out], by go_num⟩
      case measure => simp [intOf]; omega
    · go_wp2_with fail
      go_ret
      refine ⟨reti ?_, rfl⟩
      rw [cosQ, if_neg hn1, show n.toNat = j + 1 by omega]
theorem cosI_1 {n r : Int} (h : n % 720 = r) (h1 : r ≤ 180) : cosI n = cosQ r := by
  rw [cosI, h, if_pos h1]
theorem cosI_2 {n r : Int} (h : n % 720 = r) (h1 : 180 < r) (h2 : r ≤ 360) : cosI n = -cosQ (360 - r) := by
  rw [cosI, h, if_neg (by omega), if_pos (by omega), if_pos h2]
theorem cosI_3 {n r : Int} (h : n % 720 = r) (h1 : 360 < r) (h2 : r < 540) : cosI n = -cosQ (360 - (720 - r)) := by
  rw [cosI, h, if_neg (by omega), if_pos (by omega), if_neg (by omega), show (360 : Int) - (720 - r) = r - 360 by omega]
theorem cosI_4 {n r : Int} (h : n % 720 = r) (h1 : 540 ≤ r) : cosI n = cosQ (720 - r) := by
  rw [cosI, h, if_neg (by omega)]
  split
  · have : r = 540 := by omega
    subst this; rfl
  · rfl
set_option maxHeartbeats 1000000 in
theorem impl_cosine (n : Int) (h0 : -9000000000 ≤ n) (h1 : n ≤ 9000000000) (w : World) :
    Calls Try.prog 30 #[.int .i64 n] w fun e w' => e = .returned (.int .i64 (cosI n)) ∧ w = w' := by
  have r0 := Int.emod_nonneg n (show (720 : Int) ≠ 0 by omega)
  have r1 := Int.emod_lt_of_pos n (show (0 : Int) < 720 by omega)
  obtain ⟨r, hr⟩ : ∃ r, n % 720 = r := ⟨_, rfl⟩
  rw [hr] at r0 r1
  have HR := Lib.hid hr
  clear hr
  rcases Int.lt_or_le 180 r with h2 | h2
  · rcases Int.lt_or_le 360 r with h3 | h3
    · rcases Int.lt_or_le r 540 with h4 | h4
      · have hb := @cosQ_bd (360 - (720 - r)) (by omega)
        go_enter Try.func30, Try.ntmps30
        go_wp2_with fail
        refine (impl_floorMod _ _ (by omega) (by omega) (by omega) (by omega) _).mono ?_
        rintro e w1 ⟨rfl, rfl⟩
        rw [HR.out]
        go_wp2_with fail
        refine (impl_firstCosine _ (by omega) (by omega) _).mono ?_
        rintro e w1 ⟨rfl, rfl⟩
        go_wp2_with fail
        go_ret
        exact ⟨reti (cosI_3 HR.out h3 h4).symm, rfl⟩
      · go_enter Try.func30, Try.ntmps30
        go_wp2_with fail
        refine (impl_floorMod _ _ (by omega) (by omega) (by omega) (by omega) _).mono ?_
        rintro e w1 ⟨rfl, rfl⟩
        rw [HR.out]
        go_wp2_with fail
        refine (impl_firstCosine _ (by omega) (by omega) _).mono ?_
        rintro e w1 ⟨rfl, rfl⟩
        go_wp2_with fail
        go_ret
        exact ⟨reti (cosI_4 HR.out h4).symm, rfl⟩
    · have hb := @cosQ_bd (360 - r) (by omega)
      go_enter Try.func30, Try.ntmps30
      go_wp2_with fail
      refine (impl_floorMod _ _ (by omega) (by omega) (by omega) (by omega) _).mono ?_
      rintro e w1 ⟨rfl, rfl⟩
      rw [HR.out]
      go_wp2_with fail
      refine (impl_firstCosine _ (by omega) (by omega) _).mono ?_
      rintro e w1 ⟨rfl, rfl⟩
      go_wp2_with fail
      go_ret
      exact ⟨reti (cosI_2 HR.out h2 h3).symm, rfl⟩
  · go_enter Try.func30, Try.ntmps30
    go_wp2_with fail
    refine (impl_floorMod _ _ (by omega) (by omega) (by omega) (by omega) _).mono ?_
    rintro e w1 ⟨rfl, rfl⟩
    rw [HR.out]
    go_wp2_with fail
    refine (impl_firstCosine _ (by omega) (by omega) _).mono ?_
    rintro e w1 ⟨rfl, rfl⟩
    go_wp2_with fail
    go_ret
    exact ⟨reti (cosI_1 HR.out h2).symm, rfl⟩
theorem sq_terms {a b n : Int} (ha : 0 ≤ a ∧ a ≤ 10000) (hb : 0 ≤ b ∧ b ≤ 10000) :
    (0 ≤ a * a ∧ a * a ≤ 100000000) ∧ (0 ≤ b * b ∧ b * b ≤ 100000000) ∧ (0 ≤ 2 * a * b ∧ 2 * a * b ≤ 200000000) ∧ (-200000000000000000 ≤ 2 * a * b * cosI n ∧ 2 * a * b * cosI n ≤ 200000000000000000) ∧
    (-200000000 ≤ near (2 * a * b * cosI n) 1000000000 ∧ near (2 * a * b * cosI n) 1000000000 ≤ 200000000) := by
  have h1 := sq_bd ha
  have h2 := sq_bd hb
  have h3 := mul_bd (x := 2 * a) (n := b) (A := 20000) (B := 10000) ⟨by omega, by omega⟩ ⟨by omega, by omega⟩
  have h4 : 0 ≤ 2 * a * b := Int.mul_nonneg (by omega) (by omega)
  have h5 := mul_bd (x := 2 * a * b) (n := cosI n) (A := 200000000) (B := 1000000000) ⟨by omega, by omega⟩ (cosI_bd n)
  refine ⟨by omega, by omega, by omega, by omega, ?_⟩
  unfold near
  omega
set_option maxHeartbeats 1000000 in
theorem impl_squareBetween (a b n : Int) (ha : 0 ≤ a ∧ a ≤ 10000) (hb : 0 ≤ b ∧ b ≤ 10000) (h0 : -9000000000 ≤ n) (h1 : n ≤ 9000000000) (w : World) :
    Calls Try.prog 44 #[.int .i64 a, .int .i64 b, .int .i64 n] w fun e w' => e = .returned (.int .i64 (sqI a b n)) ∧ w = w' := by
  obtain ⟨k1, k2, k3, k4, k5⟩ := sq_terms (n := n) ha hb
  have k6 := cosI_bd n
  go_enter Try.func44, Try.ntmps44
  go_wp2_with fail
  refine (impl_cosine _ h0 h1 _).mono ?_
  rintro e w1 ⟨rfl, rfl⟩
  go_wp2_with fail
  refine (impl_nearest _ _ (by omega) (by omega) (by omega) (by omega) _).mono ?_
  rintro e w1 ⟨rfl, rfl⟩
  go_wp2_with fail
  go_ret
  exact ⟨rfl, rfl⟩

end Go.Proofs.Ytjfhhdplgacnhaa
