/- Contracts of squares, distances and least steps. Conditions: those that each theorem names. -/
import Derived.Test.YtjfhhdplgacnhaaAngF
namespace Go.Proofs.Ytjfhhdplgacnhaa
open Go.RowKit

theorem sqI_bd {a b n : Int} (ha : 0 ≤ a ∧ a ≤ 10000) (hb : 0 ≤ b ∧ b ≤ 10000) : -4000000000000000000 ≤ sqI a b n ∧ sqI a b n ≤ 4000000000000000000 := by
  obtain ⟨k1, k2, k3, k4, k5⟩ := sq_terms (n := n) ha hb
  unfold sqI
  omega
/-- The first number from k on, of m numbers, at which f says yes, with code 0; or code 4. -/
def firstUp (f : Int → Bool) : Nat → Int → Int × Int
  | 0, _ => (0, 4)
  | m + 1, k => if f k then (k, 0) else firstUp f m (k + 1)
def farB (a b d k : Int) : Bool := decide (d ≤ rootN (sqI a b k))
def stepsF (a b d : Int) : Int × Int := if okAng a b 0 && inB d 0 20000 then firstUp (farB a b d) 361 0 else (0, 2)
theorem okAng_0 {a b : Int} (h1 : inB a 0 10000 = true) (h2 : inB b 0 10000 = true) : okAng a b 0 = true := by
  simp only [okAng, h1, h2, inB_mk (n := 0) (lo := -100000) (hi := 100000) (by omega), Bool.and_self]
theorem okAng_0a {a b : Int} (h1 : inB a 0 10000 = false) : okAng a b 0 = false := by simp [okAng, h1]
theorem okAng_0b {a b : Int} (h1 : inB b 0 10000 = false) : okAng a b 0 = false := by simp [okAng, h1]

/-- The code of two radii and steps. -/
def angCode (a b n : Int) : Int := if okAng a b n then 0 else 2
theorem spec_Code (a b n : Int) (w : World) : Calls Try.prog 45 #[.int .i64 a, .int .i64 b, .int .i64 n] w fun e w' => e = .returned (.int .i64 (angCode a b n)) ∧ w = w' := by
  rcases h1 : inB a 0 10000 with _ | _
  · go_enter Try.func45, Try.ntmps45
    go_wp2_with fail
    refine (spec_Radius _ _).mono ?_
    rintro e w1 ⟨rfl, rfl⟩
    go_wp2_with fail
    go_ret
    exact ⟨reti (by simp [angCode, okAng, h1]), rfl⟩
  rcases h2 : inB b 0 10000 with _ | _
  · go_enter Try.func45, Try.ntmps45
    go_wp2_with fail
    refine (spec_Radius _ _).mono ?_
    rintro e w1 ⟨rfl, rfl⟩
    go_wp2_with fail
    refine (spec_Radius _ _).mono ?_
    rintro e w1 ⟨rfl, rfl⟩
    go_wp2_with fail
    go_ret
    exact ⟨reti (by simp [angCode, okAng, h1, h2]), rfl⟩
  rcases h3 : inB n (-100000) 100000 with _ | _
  all_goals
    go_enter Try.func45, Try.ntmps45
    go_wp2_with fail
    refine (spec_Radius _ _).mono ?_
    rintro e w1 ⟨rfl, rfl⟩
    go_wp2_with fail
    refine (spec_Radius _ _).mono ?_
    rintro e w1 ⟨rfl, rfl⟩
    go_wp2_with fail
    refine (spec_Steps _ _).mono ?_
    rintro e w1 ⟨rfl, rfl⟩
    go_wp2_with fail
    go_ret
    exact ⟨reti (by simp [angCode, okAng, h1, h2, h3]), rfl⟩
theorem spec_Code_ok {a b n : Int} (h : okAng a b n = true) (w : World) : Calls Try.prog 45 #[.int .i64 a, .int .i64 b, .int .i64 n] w fun e w' => e = .returned (.int .i64 0) ∧ w = w' := by
  have := spec_Code a b n w; rw [angCode, h] at this; exact this
theorem spec_Code_no {a b n : Int} (h : okAng a b n = false) (w : World) : Calls Try.prog 45 #[.int .i64 a, .int .i64 b, .int .i64 n] w fun e w' => e = .returned (.int .i64 2) ∧ w = w' := by
  have := spec_Code a b n w; rw [angCode, h] at this; exact this

set_option maxHeartbeats 1000000 in
theorem impl_SquareBetween (a b n : Int) (w : World) : Calls Try.prog 22 #[.int .i64 a, .int .i64 b, .int .i64 n] w fun e w' => e = .returned (.tuple #[.int .i64 (sqF a b n).1, .int .i64 (sqF a b n).2]) ∧ w = w' := by
  rcases h1 : inB a 0 10000 with _ | _
  · go_enter Try.func22, Try.ntmps22
    go_wp2_with fail
    refine (impl_isRadius _ _).mono ?_
    rintro e w1 ⟨rfl, rfl⟩
    go_wp2_with fail
    go_ret2
    exact ⟨by simp [sqF, okAng, h1], rfl⟩
  rcases h2 : inB b 0 10000 with _ | _
  · go_enter Try.func22, Try.ntmps22
    go_wp2_with fail
    refine (impl_isRadius _ _).mono ?_
    rintro e w1 ⟨rfl, rfl⟩
    go_wp2_with fail
    refine (impl_isRadius _ _).mono ?_
    rintro e w1 ⟨rfl, rfl⟩
    go_wp2_with fail
    go_ret2
    exact ⟨by simp [sqF, okAng, h1, h2], rfl⟩
  rcases h3 : inB n (-100000) 100000 with _ | _
  · go_enter Try.func22, Try.ntmps22
    go_wp2_with fail
    refine (impl_isRadius _ _).mono ?_
    rintro e w1 ⟨rfl, rfl⟩
    go_wp2_with fail
    refine (impl_isRadius _ _).mono ?_
    rintro e w1 ⟨rfl, rfl⟩
    go_wp2_with fail
    refine (impl_areSteps _ _).mono ?_
    rintro e w1 ⟨rfl, rfl⟩
    go_wp2_with fail
    go_ret2
    exact ⟨by simp [sqF, okAng, h1, h2, h3], rfl⟩
  · have e1 := okAng_t (a := a) (b := b) (n := n) (by simp [okAng, h1, h2, h3])
    go_enter Try.func22, Try.ntmps22
    go_wp2_with fail
    refine (impl_isRadius _ _).mono ?_
    rintro e w1 ⟨rfl, rfl⟩
    go_wp2_with fail
    refine (impl_isRadius _ _).mono ?_
    rintro e w1 ⟨rfl, rfl⟩
    go_wp2_with fail
    refine (impl_areSteps _ _).mono ?_
    rintro e w1 ⟨rfl, rfl⟩
    go_wp2_with fail
    refine (impl_squareBetween _ _ _ e1.1 e1.2.1 (by omega) (by omega) _).mono ?_
    rintro e w1 ⟨rfl, rfl⟩
    go_wp2_with fail
    go_ret2
    exact ⟨by simp [sqF, okAng, h1, h2, h3], rfl⟩
set_option maxHeartbeats 1000000 in
theorem spec_SquareBetween (a b n : Int) (w : World) : Calls Try.prog 23 #[.int .i64 a, .int .i64 b, .int .i64 n] w fun e w' => e = .returned (.tuple #[.int .i64 (sqF a b n).1, .int .i64 (sqF a b n).2]) ∧ Below w.heap.size w w' := by
  rcases h1 : okAng a b n with _ | _
  · go_enter Try.func23, Try.ntmps23
    go_wp2_with fail
    refine (spec_Code_no h1 _).mono ?_
    rintro e w1 ⟨rfl, rfl⟩
    go_wp2_with fail
    go_ret2
    exact ⟨by simp [sqF, h1], Below.refl _ _⟩
  · have e1 := okAng_t h1
    go_enter Try.func23, Try.ntmps23
    go_wp2_with fail
    refine (spec_Code_ok h1 _).mono ?_
    rintro e w1 ⟨rfl, rfl⟩
    go_wp2_with fail
    refine (spec_Square _ _ _ e1.1 e1.2.1 (by omega) (by omega) _).mono ?_
    rintro e w1 ⟨rfl, hb1⟩
    go_wp2_with fail
    go_ret2
    exact ⟨by simp [sqF, h1], hb1⟩
set_option maxHeartbeats 1000000 in
theorem impl_DistanceBetween (a b n : Int) (w : World) : Calls Try.prog 20 #[.int .i64 a, .int .i64 b, .int .i64 n] w fun e w' => e = .returned (.tuple #[.int .i64 (distF a b n).1, .int .i64 (distF a b n).2]) ∧ w = w' := by
  rcases h1 : inB a 0 10000 with _ | _
  · go_enter Try.func20, Try.ntmps20
    go_wp2_with fail
    refine (impl_isRadius _ _).mono ?_
    rintro e w1 ⟨rfl, rfl⟩
    go_wp2_with fail
    go_ret2
    exact ⟨by simp [distF, okAng, h1], rfl⟩
  rcases h2 : inB b 0 10000 with _ | _
  · go_enter Try.func20, Try.ntmps20
    go_wp2_with fail
    refine (impl_isRadius _ _).mono ?_
    rintro e w1 ⟨rfl, rfl⟩
    go_wp2_with fail
    refine (impl_isRadius _ _).mono ?_
    rintro e w1 ⟨rfl, rfl⟩
    go_wp2_with fail
    go_ret2
    exact ⟨by simp [distF, okAng, h1, h2], rfl⟩
  rcases h3 : inB n (-100000) 100000 with _ | _
  · go_enter Try.func20, Try.ntmps20
    go_wp2_with fail
    refine (impl_isRadius _ _).mono ?_
    rintro e w1 ⟨rfl, rfl⟩
    go_wp2_with fail
    refine (impl_isRadius _ _).mono ?_
    rintro e w1 ⟨rfl, rfl⟩
    go_wp2_with fail
    refine (impl_areSteps _ _).mono ?_
    rintro e w1 ⟨rfl, rfl⟩
    go_wp2_with fail
    go_ret2
    exact ⟨by simp [distF, okAng, h1, h2, h3], rfl⟩
  · have e1 := okAng_t (a := a) (b := b) (n := n) (by simp [okAng, h1, h2, h3])
    go_enter Try.func20, Try.ntmps20
    go_wp2_with fail
    refine (impl_isRadius _ _).mono ?_
    rintro e w1 ⟨rfl, rfl⟩
    go_wp2_with fail
    refine (impl_isRadius _ _).mono ?_
    rintro e w1 ⟨rfl, rfl⟩
    go_wp2_with fail
    refine (impl_areSteps _ _).mono ?_
    rintro e w1 ⟨rfl, rfl⟩
    go_wp2_with fail
    refine (impl_squareBetween _ _ _ e1.1 e1.2.1 (by omega) (by omega) _).mono ?_
    rintro e w1 ⟨rfl, rfl⟩
    go_wp2_with fail
    refine (impl_nearestRoot _ (sqI_bd e1.1 e1.2.1).1 (sqI_bd e1.1 e1.2.1).2 _).mono ?_
    rintro e w1 ⟨rfl, rfl⟩
    go_wp2_with fail
    go_ret2
    exact ⟨by simp [distF, okAng, h1, h2, h3], rfl⟩
set_option maxHeartbeats 1000000 in
theorem spec_DistanceBetween (a b n : Int) (w : World) : Calls Try.prog 21 #[.int .i64 a, .int .i64 b, .int .i64 n] w fun e w' => e = .returned (.tuple #[.int .i64 (distF a b n).1, .int .i64 (distF a b n).2]) ∧ Below w.heap.size w w' := by
  rcases h1 : okAng a b n with _ | _
  · go_enter Try.func21, Try.ntmps21
    go_wp2_with fail
    refine (spec_Code_no h1 _).mono ?_
    rintro e w1 ⟨rfl, rfl⟩
    go_wp2_with fail
    go_ret2
    exact ⟨by simp [distF, h1], Below.refl _ _⟩
  · have e1 := okAng_t h1
    go_enter Try.func21, Try.ntmps21
    go_wp2_with fail
    refine (spec_Code_ok h1 _).mono ?_
    rintro e w1 ⟨rfl, rfl⟩
    go_wp2_with fail
    refine (spec_Square _ _ _ e1.1 e1.2.1 (by omega) (by omega) _).mono ?_
    rintro e w1 ⟨rfl, hb1⟩
    go_wp2_with fail
    refine (spec_Near _ (sqI_bd e1.1 e1.2.1).1 (sqI_bd e1.1 e1.2.1).2 _).mono ?_
    rintro e w1 ⟨rfl, rfl⟩
    go_wp2_with fail
    go_ret2
    exact ⟨by simp [distF, h1], hb1⟩
set_option maxHeartbeats 2000000 in
theorem impl_StepsFor (a b d : Int) (w : World) : Calls Try.prog 25 #[.int .i64 a, .int .i64 b, .int .i64 d] w fun e w' => e = .returned (.tuple #[.int .i64 (stepsF a b d).1, .int .i64 (stepsF a b d).2]) ∧ w = w' := by
  rcases h1 : inB a 0 10000 with _ | _
  · go_enter Try.func25, Try.ntmps25
    go_wp2_with fail
    refine (impl_isRadius _ _).mono ?_
    rintro e w1 ⟨rfl, rfl⟩
    go_wp2_with fail
    go_ret2
    exact ⟨by simp [stepsF, okAng_0a h1], rfl⟩
  rcases h2 : inB b 0 10000 with _ | _
  · go_enter Try.func25, Try.ntmps25
    go_wp2_with fail
    refine (impl_isRadius _ _).mono ?_
    rintro e w1 ⟨rfl, rfl⟩
    go_wp2_with fail
    refine (impl_isRadius _ _).mono ?_
    rintro e w1 ⟨rfl, rfl⟩
    go_wp2_with fail
    go_ret2
    exact ⟨by simp [stepsF, okAng_0b h2], rfl⟩
  rcases h3 : inB d 0 20000 with _ | _
  · go_enter Try.func25, Try.ntmps25
    go_wp2_with fail
    refine (impl_isRadius _ _).mono ?_
    rintro e w1 ⟨rfl, rfl⟩
    go_wp2_with fail
    refine (impl_isRadius _ _).mono ?_
    rintro e w1 ⟨rfl, rfl⟩
    go_wp2_with fail
    refine (impl_within _ _ _ _).mono ?_
    rintro e w1 ⟨rfl, rfl⟩
    go_wp2_with fail
    go_ret2
    exact ⟨by simp [stepsF, h3], rfl⟩
  have e1 := inB_t h1
  have e2 := inB_t h2
  have HS := Lib.hid (show stepsF a b d = firstUp (farB a b d) 361 0 by rw [stepsF, okAng_0 h1 h2, h3]; rfl)
  go_enter Try.func25, Try.ntmps25
  go_wp2_with fail
  refine (impl_isRadius _ _).mono ?_
  rintro e w1 ⟨rfl, rfl⟩
  go_wp2_with fail
  refine (impl_isRadius _ _).mono ?_
  rintro e w1 ⟨rfl, rfl⟩
  go_wp2_with fail
  refine (impl_within _ _ _ _).mono ?_
  rintro e w1 ⟨rfl, rfl⟩
  go_wp2_with fail
  go_loop [8] (fun s => ∃ k : Nat, k ≤ 361 ∧ s = .int .i64 k ∧ firstUp (farB a b d) (361 - k) k = stepsF a b d) (fun s => 361 - (intOf s).toNat)
  case atStart => exact ⟨0, by omega, rfl, HS.out.symm⟩
  case round =>
    obtain ⟨k, hk, rfl, hf⟩ := hrel
    have HF := Lib.hid hf
    clear hf
    by_cases hlt : k ≤ 360
    · by_cases hfar : d ≤ rootN (sqI a b k)
      · have hq := HF.out
        rw [show 361 - k = (360 - k) + 1 by omega, firstUp, if_pos (by simp [farB, hfar])] at hq
        have HQ := Lib.hid hq
        clear hq
        go_wp2_with fail
        refine (impl_squareBetween _ _ _ e1 e2 (by omega) (by omega) _).mono ?_
        rintro e w1 ⟨rfl, rfl⟩
        go_wp2_with fail
        refine (impl_nearestRoot _ (sqI_bd e1 e2).1 (sqI_bd e1 e2).2 _).mono ?_
        rintro e w1 ⟨rfl, rfl⟩
        go_wp2_with fail
        go_ret2
        exact ⟨by rw [← HQ.out]; rfl, rfl⟩
      · have hq := HF.out
        rw [show 361 - k = (360 - k) + 1 by omega, firstUp, if_neg (by simp [farB]; omega)] at hq
        have HQ := Lib.hid hq
        clear hq
        go_wp2_with fail
        refine (impl_squareBetween _ _ _ e1 e2 (by omega) (by omega) _).mono ?_
        rintro e w1 ⟨rfl, rfl⟩
        go_wp2_with fail
        refine (impl_nearestRoot _ (sqI_bd e1 e2).1 (sqI_bd e1 e2).2 _).mono ?_
        rintro e w1 ⟨rfl, rfl⟩
        go_wp2_with fail
        go_round
        case rel => exact ⟨k + 1, by omega, by go_num, by rw [← HQ.out, show 361 - (k + 1) = 360 - k by omega]; rfl⟩
        case measure => simp [intOf]; omega
    · have hk2 : k = 361 := by omega
      subst hk2
      go_wp2_with fail
      go_ret2
      exact ⟨by rw [← HF.out]; rfl, rfl⟩
set_option maxHeartbeats 2000000 in
theorem spec_StepsFor (a b d : Int) (w : World) : Calls Try.prog 26 #[.int .i64 a, .int .i64 b, .int .i64 d] w fun e w' => e = .returned (.tuple #[.int .i64 (stepsF a b d).1, .int .i64 (stepsF a b d).2]) ∧ Below w.heap.size w w' := by
  rcases h1 : okAng a b 0 with _ | _
  · go_enter Try.func26, Try.ntmps26
    go_wp2_with fail
    refine (spec_Code_no h1 _).mono ?_
    rintro e w1 ⟨rfl, rfl⟩
    go_wp2_with fail
    go_ret2
    exact ⟨by simp [stepsF, h1], Below.refl _ _⟩
  rcases h3 : inB d 0 20000 with _ | _
  · go_enter Try.func26, Try.ntmps26
    go_wp2_with fail
    refine (spec_Code_ok h1 _).mono ?_
    rintro e w1 ⟨rfl, rfl⟩
    go_wp2_with fail
    refine (spec_In _ _ _ _).mono ?_
    rintro e w1 ⟨rfl, rfl⟩
    go_wp2_with fail
    go_ret2
    exact ⟨by simp [stepsF, h3], Below.refl _ _⟩
  obtain ⟨e1, e2, _⟩ := okAng_t h1
  have HS := Lib.hid (show stepsF a b d = firstUp (farB a b d) 361 0 by rw [stepsF, h1, h3]; rfl)
  go_enter Try.func26, Try.ntmps26
  go_wp2_with fail
  refine (spec_Code_ok h1 _).mono ?_
  rintro e w1 ⟨rfl, rfl⟩
  go_wp2_with fail
  refine (spec_In _ _ _ _).mono ?_
  rintro e w1 ⟨rfl, rfl⟩
  go_wp2_with fail
  go_loopw [9] (fun s wr => ∃ k : Nat, k ≤ 361 ∧ s = .int .i64 k ∧ firstUp (farB a b d) (361 - k) k = stepsF a b d ∧ Below w.heap.size w wr) (fun s _ => 361 - (intOf s).toNat)
  case atStart => exact ⟨0, by omega, rfl, HS.out.symm, Below.refl _ _⟩
  case round =>
    obtain ⟨k, hk, rfl, hf, hb⟩ := hrel
    have HF := Lib.hid hf
    clear hf
    have hz := hb.size
    by_cases hlt : k ≤ 360
    · by_cases hfar : d ≤ rootN (sqI a b k)
      · have hq := HF.out
        rw [show 361 - k = (360 - k) + 1 by omega, firstUp, if_pos (by simp [farB, hfar])] at hq
        have HQ := Lib.hid hq
        clear hq
        go_wp2_with fail
        refine (spec_Square _ _ _ e1 e2 (by omega) (by omega) _).mono ?_
        rintro e w1 ⟨rfl, hb1⟩
        go_wp2_with fail
        refine (spec_Near _ (sqI_bd e1 e2).1 (sqI_bd e1 e2).2 _).mono ?_
        rintro e w1 ⟨rfl, rfl⟩
        go_wp2_with fail
        go_ret2
        exact ⟨by rw [← HQ.out]; rfl, hb.trans (hb1.mono hz)⟩
      · have hq := HF.out
        rw [show 361 - k = (360 - k) + 1 by omega, firstUp, if_neg (by simp [farB]; omega)] at hq
        have HQ := Lib.hid hq
        clear hq
        go_wp2_with fail
        refine (spec_Square _ _ _ e1 e2 (by omega) (by omega) _).mono ?_
        rintro e w1 ⟨rfl, hb1⟩
        go_wp2_with fail
        refine (spec_Near _ (sqI_bd e1 e2).1 (sqI_bd e1 e2).2 _).mono ?_
        rintro e w1 ⟨rfl, rfl⟩
        go_wp2_with fail
        go_roundw
        case rel => exact ⟨k + 1, by omega, by go_num, by rw [← HQ.out, show 361 - (k + 1) = 360 - k by omega]; rfl, hb.trans (hb1.mono hz)⟩
        case measure => simp [intOf]; omega
    · have hk2 : k = 361 := by omega
      subst hk2
      go_wp2_with fail
      go_ret2
      exact ⟨by rw [← HF.out]; rfl, hb⟩

end Go.Proofs.Ytjfhhdplgacnhaa
