/- Contracts of the exported functions on angles. Conditions: those that each theorem names. -/
import Derived.Test.YtjfhhdplgacnhaaTab
import Derived.Test.YtjfhhdplgacnhaaRoots
namespace Go.Proofs.Ytjfhhdplgacnhaa
open Go.RowKit

/-- The nearest integer to a square root, 0 below 0. -/
def rootN (n : Int) : Int := if n < 0 then 0 else if isqI n < n - isqI n * isqI n then isqI n + 1 else isqI n
set_option maxHeartbeats 1000000 in
theorem impl_nearestRoot (n : Int) (h0 : -4000000000000000000 ≤ n) (h1 : n ≤ 4000000000000000000) (w : World) :
    Calls Try.prog 43 #[.int .i64 n] w fun e w' => e = .returned (.int .i64 (rootN n)) ∧ w = w' := by
  rcases Int.lt_or_le n 0 with h | h
  · go_enter Try.func43, Try.ntmps43
    go_wp2_with fail
    go_ret
    exact ⟨reti (by rw [rootN, if_pos h]), rfl⟩
  · obtain ⟨k0, k1, k2⟩ := isqI_spec h
    have k3 := isqI_le h (r := 2000000000) (by omega) (by omega)
    have k4 := sq_bd (x := isqI n) (A := 2000000000) ⟨k0, k3⟩
    rcases Int.lt_or_le (isqI n) (n - isqI n * isqI n) with h2 | h2
    all_goals
      go_enter Try.func43, Try.ntmps43
      go_wp2_with fail
      refine (impl_root n h h1 _).mono ?_
      rintro e w1 ⟨rfl, rfl⟩
      go_wp2_with fail
      go_ret
    · exact ⟨reti (by rw [rootN, if_neg (by omega), if_pos h2]), rfl⟩
    · exact ⟨reti (by rw [rootN, if_neg (by omega), if_neg (by omega)]), rfl⟩
set_option maxHeartbeats 1000000 in
theorem spec_Near (n : Int) (h0 : -4000000000000000000 ≤ n) (h1 : n ≤ 4000000000000000000) (w : World) :
    Calls Try.prog 46 #[.int .i64 n] w fun e w' => e = .returned (.int .i64 (rootN n)) ∧ w = w' := by
  rcases Int.lt_or_le n 0 with h | h
  · go_enter Try.func46, Try.ntmps46
    go_wp2_with fail
    go_ret
    exact ⟨reti (by rw [rootN, if_pos h]), rfl⟩
  · obtain ⟨k0, k1, k2⟩ := isqI_spec h
    have k3 := isqI_le h (r := 2000000000) (by omega) (by omega)
    have k4 := sq_bd (x := isqI n) (A := 2000000000) ⟨k0, k3⟩
    rcases Int.lt_or_le (isqI n) (n - isqI n * isqI n) with h2 | h2
    all_goals
      go_enter Try.func46, Try.ntmps46
      go_wp2_with fail
      refine (spec_Root n h h1 _).mono ?_
      rintro e w1 ⟨rfl, rfl⟩
      go_wp2_with fail
      go_ret
    · exact ⟨reti (by rw [rootN, if_neg (by omega), if_pos h2]), rfl⟩
    · exact ⟨reti (by rw [rootN, if_neg (by omega), if_neg (by omega)]), rfl⟩

set_option maxHeartbeats 400000 in
theorem impl_areSteps (n : Int) (w : World) : Calls Try.prog 29 #[.int .i64 n] w fun e w' => e = .returned (.bool (inB n (-100000) 100000)) ∧ w = w' := by
  go_enter Try.func29, Try.ntmps29
  go_wp2_with fail
  refine (impl_within _ _ _ _).mono ?_
  rintro e w1 ⟨rfl, rfl⟩
  go_wp2_with fail
  go_ret
  exact ⟨rfl, rfl⟩
set_option maxHeartbeats 400000 in
theorem impl_isRadius (n : Int) (w : World) : Calls Try.prog 38 #[.int .i64 n] w fun e w' => e = .returned (.bool (inB n 0 10000)) ∧ w = w' := by
  go_enter Try.func38, Try.ntmps38
  go_wp2_with fail
  refine (impl_within _ _ _ _).mono ?_
  rintro e w1 ⟨rfl, rfl⟩
  go_wp2_with fail
  go_ret
  exact ⟨rfl, rfl⟩
set_option maxHeartbeats 400000 in
theorem spec_Steps (n : Int) (w : World) : Calls Try.prog 31 #[.int .i64 n] w fun e w' => e = .returned (.bool (inB n (-100000) 100000)) ∧ w = w' := by
  go_enter Try.func31, Try.ntmps31
  go_wp2_with fail
  refine (spec_In _ _ _ _).mono ?_
  rintro e w1 ⟨rfl, rfl⟩
  go_wp2_with fail
  go_ret
  exact ⟨rfl, rfl⟩
set_option maxHeartbeats 400000 in
theorem spec_Radius (n : Int) (w : World) : Calls Try.prog 40 #[.int .i64 n] w fun e w' => e = .returned (.bool (inB n 0 10000)) ∧ w = w' := by
  go_enter Try.func40, Try.ntmps40
  go_wp2_with fail
  refine (spec_In _ _ _ _).mono ?_
  rintro e w1 ⟨rfl, rfl⟩
  go_wp2_with fail
  go_ret
  exact ⟨rfl, rfl⟩

def cosF (n : Int) : Int × Int := if inB n (-100000) 100000 then (cosI n, 0) else (0, 2)
def sinF (n : Int) : Int × Int := if inB n (-100000) 100000 then (cosI (180 - n), 0) else (0, 2)
def turnsF (n : Int) : Int × Int × Int := if inB n (-100000) 100000 then (n / 720, n % 720, 0) else (0, 0, 2)
def pointF (r n : Int) : Int × Int × Int := if inB r 0 10000 && inB n (-100000) 100000 then (near (r * cosI n) 1000000000, near (r * cosI (180 - n)) 1000000000, 0) else (0, 0, 2)
def okAng (a b n : Int) : Bool := inB a 0 10000 && (inB b 0 10000 && inB n (-100000) 100000)
def sqF (a b n : Int) : Int × Int := if okAng a b n then (sqI a b n, 0) else (0, 2)
def distF (a b n : Int) : Int × Int := if okAng a b n then (rootN (sqI a b n), 0) else (0, 2)
theorem okAng_t {a b n : Int} (h : okAng a b n = true) : (0 ≤ a ∧ a ≤ 10000) ∧ (0 ≤ b ∧ b ≤ 10000) ∧ (-100000 ≤ n ∧ n ≤ 100000) := by
  simp only [okAng, Bool.and_eq_true] at h
  exact ⟨inB_t h.1, inB_t h.2.1, inB_t h.2.2⟩

set_option maxHeartbeats 1000000 in
theorem impl_CosineOf (n : Int) (w : World) : Calls Try.prog 8 #[.int .i64 n] w fun e w' => e = .returned (.tuple #[.int .i64 (cosF n).1, .int .i64 (cosF n).2]) ∧ w = w' := by
  rcases h1 : inB n (-100000) 100000 with _ | _
  · go_enter Try.func8, Try.ntmps8
    go_wp2_with fail
    refine (impl_areSteps _ _).mono ?_
    rintro e w1 ⟨rfl, rfl⟩
    go_wp2_with fail
    go_ret2
    exact ⟨by simp [cosF, h1], rfl⟩
  · have e1 := inB_t h1
    go_enter Try.func8, Try.ntmps8
    go_wp2_with fail
    refine (impl_areSteps _ _).mono ?_
    rintro e w1 ⟨rfl, rfl⟩
    go_wp2_with fail
    refine (impl_cosine _ (by omega) (by omega) _).mono ?_
    rintro e w1 ⟨rfl, rfl⟩
    go_wp2_with fail
    go_ret2
    exact ⟨by simp [cosF, h1], rfl⟩
set_option maxHeartbeats 1000000 in
theorem impl_SineOf (n : Int) (w : World) : Calls Try.prog 11 #[.int .i64 n] w fun e w' => e = .returned (.tuple #[.int .i64 (sinF n).1, .int .i64 (sinF n).2]) ∧ w = w' := by
  rcases h1 : inB n (-100000) 100000 with _ | _
  · go_enter Try.func11, Try.ntmps11
    go_wp2_with fail
    refine (impl_areSteps _ _).mono ?_
    rintro e w1 ⟨rfl, rfl⟩
    go_wp2_with fail
    go_ret2
    exact ⟨by simp [sinF, h1], rfl⟩
  · have e1 := inB_t h1
    go_enter Try.func11, Try.ntmps11
    go_wp2_with fail
    refine (impl_areSteps _ _).mono ?_
    rintro e w1 ⟨rfl, rfl⟩
    go_wp2_with fail
    refine (impl_cosine _ (by omega) (by omega) _).mono ?_
    rintro e w1 ⟨rfl, rfl⟩
    go_wp2_with fail
    go_ret2
    exact ⟨by simp [sinF, h1], rfl⟩
set_option maxHeartbeats 1000000 in
theorem impl_TurnsOf (n : Int) (w : World) : Calls Try.prog 14 #[.int .i64 n] w fun e w' => e = .returned (.tuple #[.int .i64 (turnsF n).1, .int .i64 (turnsF n).2.1, .int .i64 (turnsF n).2.2]) ∧ w = w' := by
  rcases h1 : inB n (-100000) 100000 with _ | _
  · go_enter Try.func14, Try.ntmps14
    go_wp2_with fail
    refine (impl_areSteps _ _).mono ?_
    rintro e w1 ⟨rfl, rfl⟩
    go_wp2_with fail
    go_ret3
    exact ⟨by simp [turnsF, h1], rfl⟩
  · have e1 := inB_t h1
    go_enter Try.func14, Try.ntmps14
    go_wp2_with fail
    refine (impl_areSteps _ _).mono ?_
    rintro e w1 ⟨rfl, rfl⟩
    go_wp2_with fail
    refine (impl_floorDiv _ _ (by omega) (by omega) (by omega) (by omega) _).mono ?_
    rintro e w1 ⟨rfl, rfl⟩
    go_wp2_with fail
    refine (impl_floorMod _ _ (by omega) (by omega) (by omega) (by omega) _).mono ?_
    rintro e w1 ⟨rfl, rfl⟩
    go_wp2_with fail
    go_ret3
    exact ⟨by simp [turnsF, h1], rfl⟩
set_option maxHeartbeats 1000000 in
theorem impl_PointOn (r n : Int) (w : World) : Calls Try.prog 17 #[.int .i64 r, .int .i64 n] w fun e w' => e = .returned (.tuple #[.int .i64 (pointF r n).1, .int .i64 (pointF r n).2.1, .int .i64 (pointF r n).2.2]) ∧ w = w' := by
  rcases h1 : inB r 0 10000 with _ | _
  · go_enter Try.func17, Try.ntmps17
    go_wp2_with fail
    refine (impl_isRadius _ _).mono ?_
    rintro e w1 ⟨rfl, rfl⟩
    go_wp2_with fail
    go_ret3
    exact ⟨by simp [pointF, h1], rfl⟩
  rcases h2 : inB n (-100000) 100000 with _ | _
  · go_enter Try.func17, Try.ntmps17
    go_wp2_with fail
    refine (impl_isRadius _ _).mono ?_
    rintro e w1 ⟨rfl, rfl⟩
    go_wp2_with fail
    refine (impl_areSteps _ _).mono ?_
    rintro e w1 ⟨rfl, rfl⟩
    go_wp2_with fail
    go_ret3
    exact ⟨by simp [pointF, h1, h2], rfl⟩
  · have e1 := inB_t h1
    have e2 := inB_t h2
    have k1 := mul_bd (x := r) (n := cosI n) (A := 10000) (B := 1000000000) ⟨by omega, by omega⟩ (cosI_bd n)
    have k2 := mul_bd (x := r) (n := cosI (180 - n)) (A := 10000) (B := 1000000000) ⟨by omega, by omega⟩ (cosI_bd _)
    go_enter Try.func17, Try.ntmps17
    go_wp2_with fail
    refine (impl_isRadius _ _).mono ?_
    rintro e w1 ⟨rfl, rfl⟩
    go_wp2_with fail
    refine (impl_areSteps _ _).mono ?_
    rintro e w1 ⟨rfl, rfl⟩
    go_wp2_with fail
    refine (impl_cosine _ (by omega) (by omega) _).mono ?_
    rintro e w1 ⟨rfl, rfl⟩
    go_wp2_with fail
    refine (impl_nearest _ _ (by omega) (by omega) (by omega) (by omega) _).mono ?_
    rintro e w1 ⟨rfl, rfl⟩
    go_wp2_with fail
    refine (impl_cosine _ (by omega) (by omega) _).mono ?_
    rintro e w1 ⟨rfl, rfl⟩
    go_wp2_with fail
    refine (impl_nearest _ _ (by omega) (by omega) (by omega) (by omega) _).mono ?_
    rintro e w1 ⟨rfl, rfl⟩
    go_wp2_with fail
    go_ret3
    exact ⟨by simp [pointF, h1, h2], rfl⟩
set_option maxHeartbeats 1000000 in
theorem spec_CosineOf (n : Int) (w : World) : Calls Try.prog 9 #[.int .i64 n] w fun e w' => e = .returned (.tuple #[.int .i64 (cosF n).1, .int .i64 (cosF n).2]) ∧ Below w.heap.size w w' := by
  rcases h1 : inB n (-100000) 100000 with _ | _
  · go_enter Try.func9, Try.ntmps9
    go_wp2_with fail
    refine (spec_Steps _ _).mono ?_
    rintro e w1 ⟨rfl, rfl⟩
    go_wp2_with fail
    go_ret2
    exact ⟨by simp [cosF, h1], (Below.refl _ _)⟩
  · have e1 := inB_t h1
    go_enter Try.func9, Try.ntmps9
    go_wp2_with fail
    refine (spec_Steps _ _).mono ?_
    rintro e w1 ⟨rfl, rfl⟩
    go_wp2_with fail
    refine (spec_Cosine _ (by omega) (by omega) _).mono ?_
    rintro e w1 ⟨rfl, hb1⟩
    go_wp2_with fail
    go_ret2
    exact ⟨by simp [cosF, h1], hb1⟩
set_option maxHeartbeats 1000000 in
theorem spec_SineOf (n : Int) (w : World) : Calls Try.prog 12 #[.int .i64 n] w fun e w' => e = .returned (.tuple #[.int .i64 (sinF n).1, .int .i64 (sinF n).2]) ∧ Below w.heap.size w w' := by
  rcases h1 : inB n (-100000) 100000 with _ | _
  · go_enter Try.func12, Try.ntmps12
    go_wp2_with fail
    refine (spec_Steps _ _).mono ?_
    rintro e w1 ⟨rfl, rfl⟩
    go_wp2_with fail
    go_ret2
    exact ⟨by simp [sinF, h1], (Below.refl _ _)⟩
  · have e1 := inB_t h1
    go_enter Try.func12, Try.ntmps12
    go_wp2_with fail
    refine (spec_Steps _ _).mono ?_
    rintro e w1 ⟨rfl, rfl⟩
    go_wp2_with fail
    refine (spec_Cosine _ (by omega) (by omega) _).mono ?_
    rintro e w1 ⟨rfl, hb1⟩
    go_wp2_with fail
    go_ret2
    exact ⟨by simp [sinF, h1], hb1⟩
set_option maxHeartbeats 1000000 in
theorem spec_TurnsOf (n : Int) (w : World) : Calls Try.prog 15 #[.int .i64 n] w fun e w' => e = .returned (.tuple #[.int .i64 (turnsF n).1, .int .i64 (turnsF n).2.1, .int .i64 (turnsF n).2.2]) ∧ w = w' := by
  rcases h1 : inB n (-100000) 100000 with _ | _
  · go_enter Try.func15, Try.ntmps15
    go_wp2_with fail
    refine (spec_Steps _ _).mono ?_
    rintro e w1 ⟨rfl, rfl⟩
    go_wp2_with fail
    go_ret3
    exact ⟨by simp [turnsF, h1], rfl⟩
  · have e1 := inB_t h1
    go_enter Try.func15, Try.ntmps15
    go_wp2_with fail
    refine (spec_Steps _ _).mono ?_
    rintro e w1 ⟨rfl, rfl⟩
    go_wp2_with fail
    refine (spec_Floor _ _ (by omega) (by omega) (by omega) (by omega) _).mono ?_
    rintro e w1 ⟨rfl, rfl⟩
    go_wp2_with fail
    refine (spec_Mod _ _ (by omega) (by omega) (by omega) (by omega) _).mono ?_
    rintro e w1 ⟨rfl, rfl⟩
    go_wp2_with fail
    go_ret3
    exact ⟨by simp [turnsF, h1], rfl⟩
set_option maxHeartbeats 1000000 in
theorem spec_PointOn (r n : Int) (w : World) : Calls Try.prog 18 #[.int .i64 r, .int .i64 n] w fun e w' => e = .returned (.tuple #[.int .i64 (pointF r n).1, .int .i64 (pointF r n).2.1, .int .i64 (pointF r n).2.2]) ∧ Below w.heap.size w w' := by
  rcases h1 : inB r 0 10000 with _ | _
  · go_enter Try.func18, Try.ntmps18
    go_wp2_with fail
    refine (spec_Radius _ _).mono ?_
    rintro e w1 ⟨rfl, rfl⟩
    go_wp2_with fail
    go_ret3
    exact ⟨by simp [pointF, h1], (Below.refl _ _)⟩
  rcases h2 : inB n (-100000) 100000 with _ | _
  · go_enter Try.func18, Try.ntmps18
    go_wp2_with fail
    refine (spec_Radius _ _).mono ?_
    rintro e w1 ⟨rfl, rfl⟩
    go_wp2_with fail
    refine (spec_Steps _ _).mono ?_
    rintro e w1 ⟨rfl, rfl⟩
    go_wp2_with fail
    go_ret3
    exact ⟨by simp [pointF, h1, h2], (Below.refl _ _)⟩
  · have e1 := inB_t h1
    have e2 := inB_t h2
    have k1 := mul_bd (x := r) (n := cosI n) (A := 10000) (B := 1000000000) ⟨by omega, by omega⟩ (cosI_bd n)
    have k2 := mul_bd (x := r) (n := cosI (180 - n)) (A := 10000) (B := 1000000000) ⟨by omega, by omega⟩ (cosI_bd _)
    go_enter Try.func18, Try.ntmps18
    go_wp2_with fail
    refine (spec_Radius _ _).mono ?_
    rintro e w1 ⟨rfl, rfl⟩
    go_wp2_with fail
    refine (spec_Steps _ _).mono ?_
    rintro e w1 ⟨rfl, rfl⟩
    go_wp2_with fail
    refine (spec_Cosine _ (by omega) (by omega) _).mono ?_
    rintro e w1 ⟨rfl, hb1⟩
    go_wp2_with fail
    refine (spec_Nearest _ _ (by omega) (by omega) (by omega) (by omega) _).mono ?_
    rintro e w1 ⟨rfl, rfl⟩
    go_wp2_with fail
    refine (spec_Cosine _ (by omega) (by omega) _).mono ?_
    rintro e w1 ⟨rfl, hb2⟩
    go_wp2_with fail
    refine (spec_Nearest _ _ (by omega) (by omega) (by omega) (by omega) _).mono ?_
    rintro e w1 ⟨rfl, rfl⟩
    go_wp2_with fail
    go_ret3
    exact ⟨by simp [pointF, h1, h2], hb1.trans (hb2.mono hb1.size)⟩

end Go.Proofs.Ytjfhhdplgacnhaa
