/- Contracts on the square and the length of a spoke. Condition: the nine numbers are a wheel. -/
import Derived.Test.YtnoiijcpnjgnbaaWhC
import Derived.Test.YtnoiijcpnjgnbaaTab
import Derived.Test.YtnoiijcpnjgnbaaRoots
namespace Go.Proofs.Ytnoiijcpnjgnbaa
open Go.RowKit

def offI (lo ro rf : Int) (right : Bool) : Int := if right then ro - rf else lo + rf
def flI (l r : Int) (right : Bool) : Int := if right then r else l
def spSq (h l r lo ro rh rd rf cr : Int) (right : Bool) : Int := sqI rd (flI l r right) (1440 * cr / h) + 4 * offI lo ro rf right * offI lo ro rf right
def spLen (h l r lo ro rh rd rf cr : Int) (right : Bool) : Int := (isqI (spSq h l r lo ro rh rd rf cr right) + 1) / 2 - 12

theorem sqI_low {a b n : Int} (ha : 0 ≤ a ∧ a ≤ 10000) (hb : 0 ≤ b ∧ b ≤ 10000) : (a - b) * (a - b) ≤ sqI a b n := by
  have h1 : 0 ≤ 2 * a * b := Int.mul_nonneg (by omega) (by omega)
  have h2 : 2 * a * b * cosI n ≤ 2 * a * b * 1000000000 := Int.mul_le_mul_of_nonneg_left (cosI_bd n).2 h1
  have h3 : near (2 * a * b * cosI n) 1000000000 ≤ 2 * a * b := by unfold near; omega
  have h4 : (a - b) * (a - b) = a * a + b * b - 2 * a * b := by
    rw [Int.sub_mul, Int.mul_sub, Int.mul_sub, Int.mul_comm b a, Int.mul_assoc 2 a b]
    omega
  unfold sqI
  omega
theorem sqI_high {a b n : Int} (ha : 0 ≤ a ∧ a ≤ 10000) (hb : 0 ≤ b ∧ b ≤ 10000) : sqI a b n ≤ 400000000 := by
  obtain ⟨k1, k2, k3, k4, k5⟩ := sq_terms (n := n) ha hb
  unfold sqI
  omega
/-- What a wheel's numbers come to. -/
structure WhBd (h l r lo ro rh rd rf cr : Int) (right : Bool) : Prop where
  h0 : 12 ≤ h ∧ h ≤ 48
  a0 : 0 ≤ rd ∧ rd ≤ 10000
  f0 : 0 ≤ flI l r right ∧ flI l r right ≤ 10000
  o0 : -100 ≤ offI lo ro rf right ∧ offI lo ro rf right ≤ 600
  o1 : 0 ≤ 4 * offI lo ro rf right * offI lo ro rf right ∧ 4 * offI lo ro rf right * offI lo ro rf right ≤ 1440000
  c0 : 0 ≤ 1440 * cr ∧ 1440 * cr ≤ 15840
  q0 : 0 ≤ 1440 * cr / h ∧ 1440 * cr / h ≤ 15840
  s0 : 640000 ≤ sqI rd (flI l r right) (1440 * cr / h) ∧ sqI rd (flI l r right) (1440 * cr / h) ≤ 400000000
  t0 : 640000 ≤ spSq h l r lo ro rh rd rf cr right ∧ spSq h l r lo ro rh rd rf cr right ≤ 401440000
  r0 : 800 ≤ isqI (spSq h l r lo ro rh rd rf cr right) ∧ isqI (spSq h l r lo ro rh rd rf cr right) ≤ 20036
  l0 : 388 ≤ spLen h l r lo ro rh rd rf cr right ∧ spLen h l r lo ro rh rd rf cr right ≤ 10006
theorem whBd {h l r lo ro rh rd rf cr : Int} (k : wheelB h l r lo ro rh rd rf cr = true) (right : Bool) : WhBd h l r lo ro rh rd rf cr right := by
  obtain ⟨k1, k2, k3, k4⟩ := wheelB_t k
  obtain ⟨m1, m2, m3, m4, m5⟩ := hubB_t k1
  obtain ⟨_, n2, n3⟩ := rimB_t k2
  have h0 := holes_bd m1
  have a0 : 0 ≤ rd ∧ rd ≤ 10000 := by omega
  have f1 : 200 ≤ flI l r right ∧ flI l r right ≤ 1200 := by unfold flI; split <;> omega
  have f0 : 0 ≤ flI l r right ∧ flI l r right ≤ 10000 := by omega
  have o0 : -100 ≤ offI lo ro rf right ∧ offI lo ro rf right ≤ 600 := by unfold offI; split <;> omega
  have o1 : 0 ≤ 4 * offI lo ro rf right * offI lo ro rf right ∧ 4 * offI lo ro rf right * offI lo ro rf right ≤ 1440000 := by
    have e := mul_bd (x := offI lo ro rf right) (n := offI lo ro rf right) (A := 600) (B := 600) ⟨by omega, by omega⟩ ⟨by omega, by omega⟩
    have e2 : 0 ≤ offI lo ro rf right * offI lo ro rf right := by
      rcases Int.lt_or_le (offI lo ro rf right) 0 with q | q
      · exact Int.mul_nonneg_of_nonpos_of_nonpos (by omega) (by omega)
      · exact Int.mul_nonneg q q
    rw [Int.mul_assoc]
    omega
  have c0 : 0 ≤ 1440 * cr ∧ 1440 * cr ≤ 15840 := by omega
  have q0 : 0 ≤ 1440 * cr / h ∧ 1440 * cr / h ≤ 15840 := by
    have := (ediv_bd (a := 1440 * cr) (b := h) (by omega)).1 c0.1
    omega
  have s1 := sqI_low (n := 1440 * cr / h) a0 f0
  have s2 : 800 * 800 ≤ (rd - flI l r right) * (rd - flI l r right) := Int.mul_le_mul (by omega) (by omega) (by omega) (by omega)
  have s3 := sqI_high (n := 1440 * cr / h) a0 f0
  have t0 : 640000 ≤ spSq h l r lo ro rh rd rf cr right ∧ spSq h l r lo ro rh rd rf cr right ≤ 401440000 := by unfold spSq; omega
  have r0 : 800 ≤ isqI (spSq h l r lo ro rh rd rf cr right) ∧ isqI (spSq h l r lo ro rh rd rf cr right) ≤ 20036 := ⟨le_isqI (by omega) (by omega) (by omega), isqI_le (by omega) (by omega) (by omega)⟩
  exact ⟨h0, a0, f0, o0, o1, c0, q0, by omega, t0, r0, by unfold spLen; omega⟩

set_option maxHeartbeats 1000000 in
theorem impl_off (h l r lo ro rh rd rf cr : Int) (right : Bool) (k : wheelB h l r lo ro rh rd rf cr = true) (w : World) : Calls Try.prog 50 #[.agg #[.int .i64 h, .int .i64 l, .int .i64 r, .int .i64 lo, .int .i64 ro, .int .i64 rh, .int .i64 rd, .int .i64 rf, .int .i64 cr], .bool right] w fun e w' => e = .returned (.int .i64 (offI lo ro rf right)) ∧ Below w.heap.size w w' := by
  have q1 := (hubB_t (wheelB_t k).1).2.2.2
  have q3 := (rimB_t (wheelB_t k).2.1).2.2
  clear k
  rcases right with _ | _
  all_goals
    go_enter Try.func50, Try.ntmps50
    go_wp2_with fail
    go_ret
    exact ⟨rfl, by (repeat (first | with_reducible exact Below.refl _ _ | with_reducible assumption | ((with_reducible refine Bw.set ?_ ?_); rotate_left; focus omega) | ((with_reducible refine Bw.al ?_ ?_); rotate_left; focus (first | omega | (simp; done) | (simp; omega))) | with_reducible refine Below.drew ?_ | with_reducible refine Bw.dr ?_ _))⟩
set_option maxHeartbeats 2000000 in
theorem impl_sq (h l r lo ro rh rd rf cr : Int) (right : Bool) (k : wheelB h l r lo ro rh rd rf cr = true) (w : World) : Calls Try.prog 47 #[.agg #[.int .i64 h, .int .i64 l, .int .i64 r, .int .i64 lo, .int .i64 ro, .int .i64 rh, .int .i64 rd, .int .i64 rf, .int .i64 cr], .bool right] w fun e w' => e = .returned (.int .i64 (spSq h l r lo ro rh rd rf cr right)) ∧ Below w.heap.size w w' := by
  rcases right with _ | _
  · obtain ⟨h0, a0, f0, o0, o1, c0, q0, s0, t0, _, _⟩ := whBd k false
    have HK := Lib.hid k
    have hf : flI l r false = l := rfl
    rw [hf] at f0 s0
    have HT : spSq h l r lo ro rh rd rf cr false = sqI rd l (1440 * cr / h) + 4 * offI lo ro rf false * offI lo ro rf false := rfl
    have HS := Lib.hid HT
    clear k hf HT t0
    generalize hoff : offI lo ro rf false = off at *
    have HO := Lib.hid hoff
    clear hoff
    go_enter Try.func47, Try.ntmps47
    go_wp2_with fail
    refine (impl_off _ _ _ _ _ _ _ _ _ false HK.out _).mono ?_
    rintro e w1 ⟨rfl, hb1⟩
    obtain ⟨c1, f1, zz, bb⟩ := kept1 hb1
    clear hb1
    rw [HO.out]
    have e1 : IntKind.i64.wrap (1440 * cr) = 1440 * cr := IntWalk.i64_in _ (by omega)
    have e2 : IntKind.i64.wrap (4 * off) = 4 * off := IntWalk.i64_in _ (by omega)
    have e3 : IntKind.i64.wrap (4 * off * off) = 4 * off * off := IntWalk.i64_in _ (by omega)
    have e4 : IntKind.i64.wrap (sqI rd l (1440 * cr / h) + 4 * off * off) = sqI rd l (1440 * cr / h) + 4 * off * off := IntWalk.i64_in _ (by omega)
    go_upto_region 5 with fail
    have ca : ∀ (y : Aft w1) (i : Nat), y.w.cell? ⟨w.heap.size, i, none⟩ = #[Value.int .i64 h, Value.int .i64 l, Value.int .i64 r, Value.int .i64 lo, Value.int .i64 ro, Value.int .i64 rh, Value.int .i64 rd, Value.int .i64 rf, Value.int .i64 cr][i]? := fun y => cell_kept y.hb (lt_cell c1 (by simp)) c1
    clear c1
    refine region_aft w1 (by kernel_rfl) (by kernel_rfl) (Below.refl _ _) ?_
    repeat (go_big_quiet_step ((go_at_call 66; exact aft_pure (impl_squareBetween _ _ _ a0 f0 (by omega) (by omega) _))))
    refine wpQuiet_nil ?_
    rintro _ ⟨⟨w2, b2⟩, rfl⟩
    go_wp2_with fail
    go_ret
    exact ⟨reti HS.out.symm, bb.trans (b2.mono (by omega))⟩
  · obtain ⟨h0, a0, f0, o0, o1, c0, q0, s0, t0, _, _⟩ := whBd k true
    have HK := Lib.hid k
    have hf : flI l r true = r := rfl
    rw [hf] at f0 s0
    have HT : spSq h l r lo ro rh rd rf cr true = sqI rd r (1440 * cr / h) + 4 * offI lo ro rf true * offI lo ro rf true := rfl
    have HS := Lib.hid HT
    clear k hf HT t0
    generalize hoff : offI lo ro rf true = off at *
    have HO := Lib.hid hoff
    clear hoff
    go_enter Try.func47, Try.ntmps47
    go_wp2_with fail
    refine (impl_off _ _ _ _ _ _ _ _ _ true HK.out _).mono ?_
    rintro e w1 ⟨rfl, hb1⟩
    obtain ⟨c1, f1, zz, bb⟩ := kept1 hb1
    clear hb1
    rw [HO.out]
    have e1 : IntKind.i64.wrap (1440 * cr) = 1440 * cr := IntWalk.i64_in _ (by omega)
    have e2 : IntKind.i64.wrap (4 * off) = 4 * off := IntWalk.i64_in _ (by omega)
    have e3 : IntKind.i64.wrap (4 * off * off) = 4 * off * off := IntWalk.i64_in _ (by omega)
    have e4 : IntKind.i64.wrap (sqI rd r (1440 * cr / h) + 4 * off * off) = sqI rd r (1440 * cr / h) + 4 * off * off := IntWalk.i64_in _ (by omega)
    go_upto_region 5 with fail
    have ca : ∀ (y : Aft w1) (i : Nat), y.w.cell? ⟨w.heap.size, i, none⟩ = #[Value.int .i64 h, Value.int .i64 l, Value.int .i64 r, Value.int .i64 lo, Value.int .i64 ro, Value.int .i64 rh, Value.int .i64 rd, Value.int .i64 rf, Value.int .i64 cr][i]? := fun y => cell_kept y.hb (lt_cell c1 (by simp)) c1
    clear c1
    refine region_aft w1 (by kernel_rfl) (by kernel_rfl) (Below.refl _ _) ?_
    repeat (go_big_quiet_step ((go_at_call 66; exact aft_pure (impl_squareBetween _ _ _ a0 f0 (by omega) (by omega) _))))
    refine wpQuiet_nil ?_
    rintro _ ⟨⟨w2, b2⟩, rfl⟩
    go_wp2_with fail
    go_ret
    exact ⟨reti HS.out.symm, bb.trans (b2.mono (by omega))⟩
set_option maxHeartbeats 1000000 in
theorem impl_len (h l r lo ro rh rd rf cr : Int) (right : Bool) (k : wheelB h l r lo ro rh rd rf cr = true) (w : World) : Calls Try.prog 45 #[.agg #[.int .i64 h, .int .i64 l, .int .i64 r, .int .i64 lo, .int .i64 ro, .int .i64 rh, .int .i64 rd, .int .i64 rf, .int .i64 cr], .bool right] w fun e w' => e = .returned (.int .i64 (spLen h l r lo ro rh rd rf cr right)) ∧ Below w.heap.size w w' := by
  obtain ⟨_, _, _, _, _, _, _, _, t0, r0, _⟩ := whBd k right
  have HK := Lib.hid k
  clear k
  go_enter Try.func45, Try.ntmps45
  go_wp2_with fail
  refine (impl_sq _ _ _ _ _ _ _ _ _ _ HK.out _).mono ?_
  rintro e w1 ⟨rfl, hb1⟩
  obtain ⟨c1, f1, zz, bb⟩ := kept1 hb1
  clear hb1
  go_wp2_with fail
  refine (impl_root _ (by omega) (by omega) _).mono ?_
  rintro e w2 ⟨rfl, rfl⟩
  go_wp2_with fail
  go_ret
  exact ⟨rfl, by (repeat (first | with_reducible exact Below.refl _ _ | with_reducible assumption | ((with_reducible refine Bw.set ?_ ?_); rotate_left; focus omega) | ((with_reducible refine Bw.al ?_ ?_); rotate_left; focus (first | omega | (simp; done) | (simp; omega))) | with_reducible refine Below.drew ?_ | with_reducible refine Bw.dr ?_ _))⟩
set_option maxHeartbeats 1000000 in
theorem spec_off (h l r lo ro rh rd rf cr : Int) (right : Bool) (k : wheelB h l r lo ro rh rd rf cr = true) (w : World) : Calls Try.prog 48 #[.agg #[.int .i64 h, .int .i64 l, .int .i64 r, .int .i64 lo, .int .i64 ro, .int .i64 rh, .int .i64 rd, .int .i64 rf, .int .i64 cr], .bool right] w fun e w' => e = .returned (.int .i64 (offI lo ro rf right)) ∧ Below w.heap.size w w' := by
  have q1 := (hubB_t (wheelB_t k).1).2.2.2
  have q3 := (rimB_t (wheelB_t k).2.1).2.2
  clear k
  rcases right with _ | _
  all_goals
    go_enter Try.func48, Try.ntmps48
    go_wp2_with fail
    go_ret
    exact ⟨rfl, by (repeat (first | with_reducible exact Below.refl _ _ | with_reducible assumption | ((with_reducible refine Bw.set ?_ ?_); rotate_left; focus omega) | ((with_reducible refine Bw.al ?_ ?_); rotate_left; focus (first | omega | (simp; done) | (simp; omega))) | with_reducible refine Below.drew ?_ | with_reducible refine Bw.dr ?_ _))⟩
set_option maxHeartbeats 2000000 in
theorem spec_sq (h l r lo ro rh rd rf cr : Int) (right : Bool) (k : wheelB h l r lo ro rh rd rf cr = true) (w : World) : Calls Try.prog 46 #[.agg #[.int .i64 h, .int .i64 l, .int .i64 r, .int .i64 lo, .int .i64 ro, .int .i64 rh, .int .i64 rd, .int .i64 rf, .int .i64 cr], .bool right] w fun e w' => e = .returned (.int .i64 (spSq h l r lo ro rh rd rf cr right)) ∧ Below w.heap.size w w' := by
  rcases right with _ | _
  · obtain ⟨h0, a0, f0, o0, o1, c0, q0, s0, t0, _, _⟩ := whBd k false
    have HK := Lib.hid k
    have hf : flI l r false = l := rfl
    rw [hf] at f0 s0
    have HT : spSq h l r lo ro rh rd rf cr false = sqI rd l (1440 * cr / h) + 4 * offI lo ro rf false * offI lo ro rf false := rfl
    have HS := Lib.hid HT
    clear k hf HT t0
    generalize hoff : offI lo ro rf false = off at *
    have HO := Lib.hid hoff
    clear hoff
    go_enter Try.func46, Try.ntmps46
    go_wp2_with fail
    refine (spec_off _ _ _ _ _ _ _ _ _ false HK.out _).mono ?_
    rintro e w1 ⟨rfl, hb1⟩
    obtain ⟨c1, f1, zz, bb⟩ := kept1 hb1
    clear hb1
    rw [HO.out]
    have e1 : IntKind.i64.wrap (1440 * cr) = 1440 * cr := IntWalk.i64_in _ (by omega)
    have e2 : IntKind.i64.wrap (4 * off) = 4 * off := IntWalk.i64_in _ (by omega)
    have e3 : IntKind.i64.wrap (4 * off * off) = 4 * off * off := IntWalk.i64_in _ (by omega)
    have e4 : IntKind.i64.wrap (sqI rd l (1440 * cr / h) + 4 * off * off) = sqI rd l (1440 * cr / h) + 4 * off * off := IntWalk.i64_in _ (by omega)
    go_upto_region 5 with fail
    have ca : ∀ (y : Aft w1) (i : Nat), y.w.cell? ⟨w.heap.size, i, none⟩ = #[Value.int .i64 h, Value.int .i64 l, Value.int .i64 r, Value.int .i64 lo, Value.int .i64 ro, Value.int .i64 rh, Value.int .i64 rd, Value.int .i64 rf, Value.int .i64 cr][i]? := fun y => cell_kept y.hb (lt_cell c1 (by simp)) c1
    clear c1
    refine region_aft w1 (by kernel_rfl) (by kernel_rfl) (Below.refl _ _) ?_
    repeat (go_big_quiet_step ((go_at_call 65; exact aft_call (spec_Square _ _ _ a0 f0 (by omega) (by omega) _))))
    refine wpQuiet_nil ?_
    rintro _ ⟨⟨w2, b2⟩, rfl⟩
    go_wp2_with fail
    go_ret
    exact ⟨reti HS.out.symm, bb.trans (b2.mono (by omega))⟩
  · obtain ⟨h0, a0, f0, o0, o1, c0, q0, s0, t0, _, _⟩ := whBd k true
    have HK := Lib.hid k
    have hf : flI l r true = r := rfl
    rw [hf] at f0 s0
    have HT : spSq h l r lo ro rh rd rf cr true = sqI rd r (1440 * cr / h) + 4 * offI lo ro rf true * offI lo ro rf true := rfl
    have HS := Lib.hid HT
    clear k hf HT t0
    generalize hoff : offI lo ro rf true = off at *
    have HO := Lib.hid hoff
    clear hoff
    go_enter Try.func46, Try.ntmps46
    go_wp2_with fail
    refine (spec_off _ _ _ _ _ _ _ _ _ true HK.out _).mono ?_
    rintro e w1 ⟨rfl, hb1⟩
    obtain ⟨c1, f1, zz, bb⟩ := kept1 hb1
    clear hb1
    rw [HO.out]
    have e1 : IntKind.i64.wrap (1440 * cr) = 1440 * cr := IntWalk.i64_in _ (by omega)
    have e2 : IntKind.i64.wrap (4 * off) = 4 * off := IntWalk.i64_in _ (by omega)
    have e3 : IntKind.i64.wrap (4 * off * off) = 4 * off * off := IntWalk.i64_in _ (by omega)
    have e4 : IntKind.i64.wrap (sqI rd r (1440 * cr / h) + 4 * off * off) = sqI rd r (1440 * cr / h) + 4 * off * off := IntWalk.i64_in _ (by omega)
    go_upto_region 5 with fail
    have ca : ∀ (y : Aft w1) (i : Nat), y.w.cell? ⟨w.heap.size, i, none⟩ = #[Value.int .i64 h, Value.int .i64 l, Value.int .i64 r, Value.int .i64 lo, Value.int .i64 ro, Value.int .i64 rh, Value.int .i64 rd, Value.int .i64 rf, Value.int .i64 cr][i]? := fun y => cell_kept y.hb (lt_cell c1 (by simp)) c1
    clear c1
    refine region_aft w1 (by kernel_rfl) (by kernel_rfl) (Below.refl _ _) ?_
    repeat (go_big_quiet_step ((go_at_call 65; exact aft_call (spec_Square _ _ _ a0 f0 (by omega) (by omega) _))))
    refine wpQuiet_nil ?_
    rintro _ ⟨⟨w2, b2⟩, rfl⟩
    go_wp2_with fail
    go_ret
    exact ⟨reti HS.out.symm, bb.trans (b2.mono (by omega))⟩
set_option maxHeartbeats 1000000 in
theorem spec_len (h l r lo ro rh rd rf cr : Int) (right : Bool) (k : wheelB h l r lo ro rh rd rf cr = true) (w : World) : Calls Try.prog 41 #[.agg #[.int .i64 h, .int .i64 l, .int .i64 r, .int .i64 lo, .int .i64 ro, .int .i64 rh, .int .i64 rd, .int .i64 rf, .int .i64 cr], .bool right] w fun e w' => e = .returned (.int .i64 (spLen h l r lo ro rh rd rf cr right)) ∧ Below w.heap.size w w' := by
  obtain ⟨_, _, _, _, _, _, _, _, t0, r0, _⟩ := whBd k right
  have HK := Lib.hid k
  clear k
  go_enter Try.func41, Try.ntmps41
  go_wp2_with fail
  refine (spec_sq _ _ _ _ _ _ _ _ _ _ HK.out _).mono ?_
  rintro e w1 ⟨rfl, hb1⟩
  obtain ⟨c1, f1, zz, bb⟩ := kept1 hb1
  clear hb1
  go_wp2_with fail
  refine (spec_Root _ (by omega) (by omega) _).mono ?_
  rintro e w2 ⟨rfl, rfl⟩
  go_wp2_with fail
  go_ret
  exact ⟨rfl, by (repeat (first | with_reducible exact Below.refl _ _ | with_reducible assumption | ((with_reducible refine Bw.set ?_ ?_); rotate_left; focus omega) | ((with_reducible refine Bw.al ?_ ?_); rotate_left; focus (first | omega | (simp; done) | (simp; omega))) | with_reducible refine Below.drew ?_ | with_reducible refine Bw.dr ?_ _))⟩

end Go.Proofs.Ytnoiijcpnjgnbaa
