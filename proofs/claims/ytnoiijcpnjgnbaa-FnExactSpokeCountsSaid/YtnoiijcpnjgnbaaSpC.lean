/- SquareOfSpoke, SpokeLength and TensionShare. No condition. -/
import Derived.Test.YtnoiijcpnjgnbaaSpA
namespace Go.Proofs.Ytnoiijcpnjgnbaa
open Go.RowKit

def sqF (h l r lo ro rh rd rf cr : Int) (right : Bool) : Int × Int := if wheelB h l r lo ro rh rd rf cr then (spSq h l r lo ro rh rd rf cr right, 0) else (0, 1)
def lenF (h l r lo ro rh rd rf cr : Int) (right : Bool) : Int × Int := if wheelB h l r lo ro rh rd rf cr then (spLen h l r lo ro rh rd rf cr right, 0) else (0, 1)
def tenF (h l r lo ro rh rd rf cr : Int) : Int × Int :=
  if wheelB h l r lo ro rh rd rf cr then (if offI lo ro rf false < 1 ∨ offI lo ro rf true < 1 then (0, 5) else (near (1000 * offI lo ro rf true * spLen h l r lo ro rh rd rf cr false) (offI lo ro rf false * spLen h l r lo ro rh rd rf cr true), 0)) else (0, 1)
theorem sqF_n {h l r lo ro rh rd rf cr : Int} {right : Bool} (k : wheelB h l r lo ro rh rd rf cr = false) : sqF h l r lo ro rh rd rf cr right = (0, 1) := by rw [sqF, k]; rfl
theorem sqF_y {h l r lo ro rh rd rf cr : Int} {right : Bool} (k : wheelB h l r lo ro rh rd rf cr = true) : sqF h l r lo ro rh rd rf cr right = (spSq h l r lo ro rh rd rf cr right, 0) := by rw [sqF, k]; rfl
theorem lenF_n {h l r lo ro rh rd rf cr : Int} {right : Bool} (k : wheelB h l r lo ro rh rd rf cr = false) : lenF h l r lo ro rh rd rf cr right = (0, 1) := by rw [lenF, k]; rfl
theorem lenF_y {h l r lo ro rh rd rf cr : Int} {right : Bool} (k : wheelB h l r lo ro rh rd rf cr = true) : lenF h l r lo ro rh rd rf cr right = (spLen h l r lo ro rh rd rf cr right, 0) := by rw [lenF, k]; rfl
theorem tenF_n {h l r lo ro rh rd rf cr : Int} (k : wheelB h l r lo ro rh rd rf cr = false) : tenF h l r lo ro rh rd rf cr = (0, 1) := by rw [tenF, k]; rfl
theorem tenF_s {h l r lo ro rh rd rf cr L R : Int} (k : wheelB h l r lo ro rh rd rf cr = true) (hL : offI lo ro rf false = L) (hR : offI lo ro rf true = R) (hh : L < 1 ∨ R < 1) : tenF h l r lo ro rh rd rf cr = (0, 5) := by rw [tenF, if_pos k, hL, hR, if_pos hh]
theorem tenF_y {h l r lo ro rh rd rf cr L R a b : Int} (k : wheelB h l r lo ro rh rd rf cr = true) (hL : offI lo ro rf false = L) (hR : offI lo ro rf true = R) (ha : spLen h l r lo ro rh rd rf cr false = a) (hb : spLen h l r lo ro rh rd rf cr true = b) (hh : 1 ≤ L ∧ 1 ≤ R) :
    tenF h l r lo ro rh rd rf cr = (near (1000 * R * a) (L * b), 0) := by rw [tenF, if_pos k, hL, hR, ha, hb, if_neg (by omega)]

theorem impl_off_b {h l r lo ro rh rd rf cr x : Int} {right : Bool} (e : offI lo ro rf right = x) (k : wheelB h l r lo ro rh rd rf cr = true) (w : World) : Calls Try.prog 50 #[.agg #[.int .i64 h, .int .i64 l, .int .i64 r, .int .i64 lo, .int .i64 ro, .int .i64 rh, .int .i64 rd, .int .i64 rf, .int .i64 cr], .bool right] w fun e w' => e = .returned (.int .i64 x) ∧ Below w.heap.size w w' := by
  subst e
  exact impl_off _ _ _ _ _ _ _ _ _ _ k _
theorem impl_len_b {h l r lo ro rh rd rf cr x : Int} {right : Bool} (e : spLen h l r lo ro rh rd rf cr right = x) (k : wheelB h l r lo ro rh rd rf cr = true) (w : World) : Calls Try.prog 45 #[.agg #[.int .i64 h, .int .i64 l, .int .i64 r, .int .i64 lo, .int .i64 ro, .int .i64 rh, .int .i64 rd, .int .i64 rf, .int .i64 cr], .bool right] w fun e w' => e = .returned (.int .i64 x) ∧ Below w.heap.size w w' := by
  subst e
  exact impl_len _ _ _ _ _ _ _ _ _ _ k _
set_option maxHeartbeats 1000000 in
theorem impl_SquareOfSpoke (h l r lo ro rh rd rf cr : Int) (right : Bool) (w : World) : Calls Try.prog 19 #[.agg #[.int .i64 h, .int .i64 l, .int .i64 r, .int .i64 lo, .int .i64 ro, .int .i64 rh, .int .i64 rd, .int .i64 rf, .int .i64 cr], .bool right] w fun e w' => e = .returned (.tuple #[.int .i64 (sqF h l r lo ro rh rd rf cr right).1, .int .i64 (sqF h l r lo ro rh rd rf cr right).2]) ∧ Below w.heap.size w w' := by
  rcases h1 : wheelB h l r lo ro rh rd rf cr with _ | _
  · rw [sqF_n h1]
    go_enter Try.func19, Try.ntmps19
    go_wp2_with fail
    refine (impl_IsWheel _ _ _ _ _ _ _ _ _ _).mono ?_
    rintro e w1 ⟨rfl, hb1⟩
    obtain ⟨c1, f1, zz, bb⟩ := kept1 hb1
    clear hb1
    go_wp2_with fail
    go_ret2
    exact ⟨rfl, by (repeat (first | with_reducible exact Below.refl _ _ | with_reducible assumption | ((with_reducible refine Bw.set ?_ ?_); rotate_left; focus omega) | ((with_reducible refine Bw.al ?_ ?_); rotate_left; focus (first | omega | (simp; done) | (simp; omega))) | with_reducible refine Below.drew ?_ | with_reducible refine Bw.dr ?_ _))⟩
  · rw [sqF_y h1]
    have HK := Lib.hid h1
    go_enter Try.func19, Try.ntmps19
    go_wp2_with fail
    refine (impl_IsWheel _ _ _ _ _ _ _ _ _ _).mono ?_
    rintro e w1 ⟨rfl, hb1⟩
    obtain ⟨c1, f1, zz, bb⟩ := kept1 hb1
    clear hb1 h1
    rw [HK.out]
    go_wp2_with fail
    refine (impl_sq _ _ _ _ _ _ _ _ _ _ HK.out _).mono ?_
    rintro e w2 ⟨rfl, hb2⟩
    replace bb : Below w.heap.size w w2 := Below.trans (by (repeat (first | with_reducible exact Below.refl _ _ | with_reducible assumption | ((with_reducible refine Bw.set ?_ ?_); rotate_left; focus omega) | ((with_reducible refine Bw.al ?_ ?_); rotate_left; focus (first | omega | (simp; done) | (simp; omega))) | with_reducible refine Below.drew ?_ | with_reducible refine Bw.dr ?_ _))) (hb2.mono (by first | omega | (simp; done) | (simp; omega)))
    first | replace c1 := cell_kept hb2 (by first | omega | (simp; done) | (simp; omega)) c1 | replace c1 := cell_kept hb2 (by first | omega | (simp; done) | (simp; omega)) (cell_alloc c1 (by first | omega | (simp; done) | (simp; omega)) _)
    replace zc1 := lt_cell c1 (by simp)
    replace zz : w.heap.size + 1 ≤ w2.heap.size := by have := hb2.size; first | omega | (simp at this; omega)
    clear hb2
    go_wp2_with fail
    go_ret2
    exact ⟨rfl, by (repeat (first | with_reducible exact Below.refl _ _ | with_reducible assumption | ((with_reducible refine Bw.set ?_ ?_); rotate_left; focus omega) | ((with_reducible refine Bw.al ?_ ?_); rotate_left; focus (first | omega | (simp; done) | (simp; omega))) | with_reducible refine Below.drew ?_ | with_reducible refine Bw.dr ?_ _))⟩
set_option maxHeartbeats 1000000 in
theorem impl_SpokeLength (h l r lo ro rh rd rf cr : Int) (right : Bool) (w : World) : Calls Try.prog 21 #[.agg #[.int .i64 h, .int .i64 l, .int .i64 r, .int .i64 lo, .int .i64 ro, .int .i64 rh, .int .i64 rd, .int .i64 rf, .int .i64 cr], .bool right] w fun e w' => e = .returned (.tuple #[.int .i64 (lenF h l r lo ro rh rd rf cr right).1, .int .i64 (lenF h l r lo ro rh rd rf cr right).2]) ∧ Below w.heap.size w w' := by
  rcases h1 : wheelB h l r lo ro rh rd rf cr with _ | _
  · rw [lenF_n h1]
    go_enter Try.func21, Try.ntmps21
    go_wp2_with fail
    refine (impl_IsWheel _ _ _ _ _ _ _ _ _ _).mono ?_
    rintro e w1 ⟨rfl, hb1⟩
    obtain ⟨c1, f1, zz, bb⟩ := kept1 hb1
    clear hb1
    go_wp2_with fail
    go_ret2
    exact ⟨rfl, by (repeat (first | with_reducible exact Below.refl _ _ | with_reducible assumption | ((with_reducible refine Bw.set ?_ ?_); rotate_left; focus omega) | ((with_reducible refine Bw.al ?_ ?_); rotate_left; focus (first | omega | (simp; done) | (simp; omega))) | with_reducible refine Below.drew ?_ | with_reducible refine Bw.dr ?_ _))⟩
  · rw [lenF_y h1]
    have HK := Lib.hid h1
    go_enter Try.func21, Try.ntmps21
    go_wp2_with fail
    refine (impl_IsWheel _ _ _ _ _ _ _ _ _ _).mono ?_
    rintro e w1 ⟨rfl, hb1⟩
    obtain ⟨c1, f1, zz, bb⟩ := kept1 hb1
    clear hb1 h1
    rw [HK.out]
    go_wp2_with fail
    refine (impl_len _ _ _ _ _ _ _ _ _ _ HK.out _).mono ?_
    rintro e w2 ⟨rfl, hb2⟩
    replace bb : Below w.heap.size w w2 := Below.trans (by (repeat (first | with_reducible exact Below.refl _ _ | with_reducible assumption | ((with_reducible refine Bw.set ?_ ?_); rotate_left; focus omega) | ((with_reducible refine Bw.al ?_ ?_); rotate_left; focus (first | omega | (simp; done) | (simp; omega))) | with_reducible refine Below.drew ?_ | with_reducible refine Bw.dr ?_ _))) (hb2.mono (by first | omega | (simp; done) | (simp; omega)))
    first | replace c1 := cell_kept hb2 (by first | omega | (simp; done) | (simp; omega)) c1 | replace c1 := cell_kept hb2 (by first | omega | (simp; done) | (simp; omega)) (cell_alloc c1 (by first | omega | (simp; done) | (simp; omega)) _)
    replace zc1 := lt_cell c1 (by simp)
    replace zz : w.heap.size + 1 ≤ w2.heap.size := by have := hb2.size; first | omega | (simp at this; omega)
    clear hb2
    go_wp2_with fail
    go_ret2
    exact ⟨rfl, by (repeat (first | with_reducible exact Below.refl _ _ | with_reducible assumption | ((with_reducible refine Bw.set ?_ ?_); rotate_left; focus omega) | ((with_reducible refine Bw.al ?_ ?_); rotate_left; focus (first | omega | (simp; done) | (simp; omega))) | with_reducible refine Below.drew ?_ | with_reducible refine Bw.dr ?_ _))⟩
set_option maxHeartbeats 2000000 in
theorem impl_TensionShare (h l r lo ro rh rd rf cr : Int) (w : World) : Calls Try.prog 23 #[.agg #[.int .i64 h, .int .i64 l, .int .i64 r, .int .i64 lo, .int .i64 ro, .int .i64 rh, .int .i64 rd, .int .i64 rf, .int .i64 cr]] w fun e w' => e = .returned (.tuple #[.int .i64 (tenF h l r lo ro rh rd rf cr).1, .int .i64 (tenF h l r lo ro rh rd rf cr).2]) ∧ Below w.heap.size w w' := by
  rcases h1 : wheelB h l r lo ro rh rd rf cr with _ | _
  · rw [tenF_n h1]
    go_enter Try.func23, Try.ntmps23
    go_wp2_with fail
    refine (impl_IsWheel _ _ _ _ _ _ _ _ _ _).mono ?_
    rintro e w1 ⟨rfl, hb1⟩
    obtain ⟨c1, f1, zz, bb⟩ := kept1 hb1
    clear hb1
    go_wp2_with fail
    go_ret2
    exact ⟨rfl, by (repeat (first | with_reducible exact Below.refl _ _ | with_reducible assumption | ((with_reducible refine Bw.set ?_ ?_); rotate_left; focus omega) | ((with_reducible refine Bw.al ?_ ?_); rotate_left; focus (first | omega | (simp; done) | (simp; omega))) | with_reducible refine Below.drew ?_ | with_reducible refine Bw.dr ?_ _))⟩
  obtain ⟨_, _, _, o0, _, _, _, _, _, _, a0⟩ := whBd h1 false
  obtain ⟨_, _, _, o1, _, _, _, _, _, _, a1⟩ := whBd h1 true
  obtain ⟨L, hL⟩ : ∃ L, offI lo ro rf false = L := ⟨_, rfl⟩
  obtain ⟨R, hR⟩ : ∃ R, offI lo ro rf true = R := ⟨_, rfl⟩
  obtain ⟨a, ha⟩ : ∃ a, spLen h l r lo ro rh rd rf cr false = a := ⟨_, rfl⟩
  obtain ⟨b, hb⟩ : ∃ b, spLen h l r lo ro rh rd rf cr true = b := ⟨_, rfl⟩
  have HK := Lib.hid h1
  have HL := Lib.hid hL
  have HR := Lib.hid hR
  have HA := Lib.hid ha
  have HB := Lib.hid hb
  rw [hL] at o0
  rw [hR] at o1
  rw [ha] at a0
  rw [hb] at a1
  clear h1 hL hR ha hb
  rcases Int.lt_or_le L 1 with h3 | h3
  rotate_left
  rcases Int.lt_or_le R 1 with h4 | h4
  rotate_left
  · have m1 := mul_bd (x := 1000 * R) (n := a) (A := 600000) (B := 10006) ⟨by omega, by omega⟩ ⟨by omega, by omega⟩
    have m2 := mul_bd (x := L) (n := b) (A := 600) (B := 10006) ⟨by omega, by omega⟩ ⟨by omega, by omega⟩
    have m3 : 1 * 1 ≤ L * b := Int.mul_le_mul h3 (by omega) (by omega) (by omega)
    have e1 : IntKind.i64.wrap (1000 * R) = 1000 * R := IntWalk.i64_in _ (by omega)
    have e2 : IntKind.i64.wrap (1000 * R * a) = 1000 * R * a := IntWalk.i64_in _ (by omega)
    have e3 : IntKind.i64.wrap (L * b) = L * b := IntWalk.i64_in _ (by omega)
    rw [tenF_y HK.out HL.out HR.out HA.out HB.out ⟨h3, h4⟩]
    go_enter Try.func23, Try.ntmps23
    go_wp2_with fail
    refine (impl_IsWheel _ _ _ _ _ _ _ _ _ _).mono ?_
    rintro e w1 ⟨rfl, hb1⟩
    obtain ⟨c1, f1, zz, bb⟩ := kept1 hb1
    clear hb1
    rw [HK.out]
    go_upto_region 3 with fail
    have ca : ∀ (y : Aft w1) (i : Nat), y.w.cell? ⟨w.heap.size, i, none⟩ = #[Value.int .i64 h, Value.int .i64 l, Value.int .i64 r, Value.int .i64 lo, Value.int .i64 ro, Value.int .i64 rh, Value.int .i64 rd, Value.int .i64 rf, Value.int .i64 cr][i]? := fun y => cell_kept y.hb (lt_cell c1 (by simp)) c1
    refine region_aft w1 (by kernel_rfl) (by kernel_rfl) (Below.refl _ _) ?_
    repeat (go_big_quiet_step (first | (go_at_call 50; first | with_reducible exact aft_call (impl_off_b HL.out HK.out _) | with_reducible exact aft_call (impl_off_b HR.out HK.out _))))
    refine wpQuiet_nil ?_
    rintro w2 ⟨⟨_, b2⟩, rfl⟩
    replace c1 := cell_kept b2 (lt_cell c1 (by simp)) c1
    replace bb := bb.trans (b2.mono (by omega))
    replace zz : w.heap.size + 1 ≤ w2.heap.size := Nat.le_trans zz b2.size
    clear ca b2
    go_wp2_with fail
    have ca : ∀ (y : Aft w2) (i : Nat), y.w.cell? ⟨w.heap.size, i, none⟩ = #[Value.int .i64 h, Value.int .i64 l, Value.int .i64 r, Value.int .i64 lo, Value.int .i64 ro, Value.int .i64 rh, Value.int .i64 rd, Value.int .i64 rf, Value.int .i64 cr][i]? := fun y => cell_kept y.hb (lt_cell c1 (by simp)) c1
    refine region_aft w2 (by kernel_rfl) (by kernel_rfl) (Below.refl _ _) ?_
    repeat (go_big_quiet_step (first | (go_at_call 45; first | with_reducible exact aft_call (impl_len_b HA.out HK.out _) | with_reducible exact aft_call (impl_len_b HB.out HK.out _)) | (go_at_call 51; exact aft_pure (impl_nearest _ _ (by omega) (by omega) (by omega) (by omega) _))))
    refine wpQuiet_nil ?_
    rintro w3 ⟨⟨_, b3⟩, rfl⟩
    replace c1 := cell_kept b3 (lt_cell c1 (by simp)) c1
    replace bb := bb.trans (b3.mono (by omega))
    replace zz : w.heap.size + 1 ≤ w3.heap.size := Nat.le_trans zz b3.size
    clear ca b3
    go_wp2_with fail
    go_ret2
    exact ⟨rfl, by (repeat (first | with_reducible exact Below.refl _ _ | with_reducible assumption | ((with_reducible refine Bw.set ?_ ?_); rotate_left; focus omega) | ((with_reducible refine Bw.al ?_ ?_); rotate_left; focus (first | omega | (simp; done) | (simp; omega))) | with_reducible refine Below.drew ?_ | with_reducible refine Bw.dr ?_ _))⟩
  · rw [tenF_s HK.out HL.out HR.out (.inl h3)]
    go_enter Try.func23, Try.ntmps23
    go_wp2_with fail
    refine (impl_IsWheel _ _ _ _ _ _ _ _ _ _).mono ?_
    rintro e w1 ⟨rfl, hb1⟩
    obtain ⟨c1, f1, zz, bb⟩ := kept1 hb1
    clear hb1
    rw [HK.out]
    go_upto_region 3 with fail
    have ca : ∀ (y : Aft w1) (i : Nat), y.w.cell? ⟨w.heap.size, i, none⟩ = #[Value.int .i64 h, Value.int .i64 l, Value.int .i64 r, Value.int .i64 lo, Value.int .i64 ro, Value.int .i64 rh, Value.int .i64 rd, Value.int .i64 rf, Value.int .i64 cr][i]? := fun y => cell_kept y.hb (lt_cell c1 (by simp)) c1
    refine region_aft w1 (by kernel_rfl) (by kernel_rfl) (Below.refl _ _) ?_
    repeat (go_big_quiet_step (first | (go_at_call 50; first | with_reducible exact aft_call (impl_off_b HL.out HK.out _) | with_reducible exact aft_call (impl_off_b HR.out HK.out _))))
    refine wpQuiet_nil ?_
    rintro w2 ⟨⟨_, b2⟩, rfl⟩
    replace c1 := cell_kept b2 (lt_cell c1 (by simp)) c1
    replace bb := bb.trans (b2.mono (by omega))
    replace zz : w.heap.size + 1 ≤ w2.heap.size := Nat.le_trans zz b2.size
    clear ca b2
    go_wp2_with fail
    go_ret2
    exact ⟨rfl, by (repeat (first | with_reducible exact Below.refl _ _ | with_reducible assumption | ((with_reducible refine Bw.set ?_ ?_); rotate_left; focus omega) | ((with_reducible refine Bw.al ?_ ?_); rotate_left; focus (first | omega | (simp; done) | (simp; omega))) | with_reducible refine Below.drew ?_ | with_reducible refine Bw.dr ?_ _))⟩
  · rw [tenF_s HK.out HL.out HR.out (.inr h4)]
    go_enter Try.func23, Try.ntmps23
    go_wp2_with fail
    refine (impl_IsWheel _ _ _ _ _ _ _ _ _ _).mono ?_
    rintro e w1 ⟨rfl, hb1⟩
    obtain ⟨c1, f1, zz, bb⟩ := kept1 hb1
    clear hb1
    rw [HK.out]
    go_upto_region 3 with fail
    have ca : ∀ (y : Aft w1) (i : Nat), y.w.cell? ⟨w.heap.size, i, none⟩ = #[Value.int .i64 h, Value.int .i64 l, Value.int .i64 r, Value.int .i64 lo, Value.int .i64 ro, Value.int .i64 rh, Value.int .i64 rd, Value.int .i64 rf, Value.int .i64 cr][i]? := fun y => cell_kept y.hb (lt_cell c1 (by simp)) c1
    refine region_aft w1 (by kernel_rfl) (by kernel_rfl) (Below.refl _ _) ?_
    repeat (go_big_quiet_step (first | (go_at_call 50; first | with_reducible exact aft_call (impl_off_b HL.out HK.out _) | with_reducible exact aft_call (impl_off_b HR.out HK.out _))))
    refine wpQuiet_nil ?_
    rintro w2 ⟨⟨_, b2⟩, rfl⟩
    replace c1 := cell_kept b2 (lt_cell c1 (by simp)) c1
    replace bb := bb.trans (b2.mono (by omega))
    replace zz : w.heap.size + 1 ≤ w2.heap.size := Nat.le_trans zz b2.size
    clear ca b2
    go_wp2_with fail
    go_ret2
    exact ⟨rfl, by (repeat (first | with_reducible exact Below.refl _ _ | with_reducible assumption | ((with_reducible refine Bw.set ?_ ?_); rotate_left; focus omega) | ((with_reducible refine Bw.al ?_ ?_); rotate_left; focus (first | omega | (simp; done) | (simp; omega))) | with_reducible refine Below.drew ?_ | with_reducible refine Bw.dr ?_ _))⟩
theorem spec_off_b {h l r lo ro rh rd rf cr x : Int} {right : Bool} (e : offI lo ro rf right = x) (k : wheelB h l r lo ro rh rd rf cr = true) (w : World) : Calls Try.prog 48 #[.agg #[.int .i64 h, .int .i64 l, .int .i64 r, .int .i64 lo, .int .i64 ro, .int .i64 rh, .int .i64 rd, .int .i64 rf, .int .i64 cr], .bool right] w fun e w' => e = .returned (.int .i64 x) ∧ Below w.heap.size w w' := by
  subst e
  exact spec_off _ _ _ _ _ _ _ _ _ _ k _
theorem spec_len_b {h l r lo ro rh rd rf cr x : Int} {right : Bool} (e : spLen h l r lo ro rh rd rf cr right = x) (k : wheelB h l r lo ro rh rd rf cr = true) (w : World) : Calls Try.prog 41 #[.agg #[.int .i64 h, .int .i64 l, .int .i64 r, .int .i64 lo, .int .i64 ro, .int .i64 rh, .int .i64 rd, .int .i64 rf, .int .i64 cr], .bool right] w fun e w' => e = .returned (.int .i64 x) ∧ Below w.heap.size w w' := by
  subst e
  exact spec_len _ _ _ _ _ _ _ _ _ _ k _
set_option maxHeartbeats 1000000 in
theorem spec_SquareOfSpoke (h l r lo ro rh rd rf cr : Int) (right : Bool) (w : World) : Calls Try.prog 18 #[.agg #[.int .i64 h, .int .i64 l, .int .i64 r, .int .i64 lo, .int .i64 ro, .int .i64 rh, .int .i64 rd, .int .i64 rf, .int .i64 cr], .bool right] w fun e w' => e = .returned (.tuple #[.int .i64 (sqF h l r lo ro rh rd rf cr right).1, .int .i64 (sqF h l r lo ro rh rd rf cr right).2]) ∧ Below w.heap.size w w' := by
  rcases h1 : wheelB h l r lo ro rh rd rf cr with _ | _
  · rw [sqF_n h1]
    go_enter Try.func18, Try.ntmps18
    go_wp2_with fail
    refine (spec_IsWheel _ _ _ _ _ _ _ _ _ _).mono ?_
    rintro e w1 ⟨rfl, hb1⟩
    obtain ⟨c1, f1, zz, bb⟩ := kept1 hb1
    clear hb1
    go_wp2_with fail
    go_ret2
    exact ⟨rfl, by (repeat (first | with_reducible exact Below.refl _ _ | with_reducible assumption | ((with_reducible refine Bw.set ?_ ?_); rotate_left; focus omega) | ((with_reducible refine Bw.al ?_ ?_); rotate_left; focus (first | omega | (simp; done) | (simp; omega))) | with_reducible refine Below.drew ?_ | with_reducible refine Bw.dr ?_ _))⟩
  · rw [sqF_y h1]
    have HK := Lib.hid h1
    go_enter Try.func18, Try.ntmps18
    go_wp2_with fail
    refine (spec_IsWheel _ _ _ _ _ _ _ _ _ _).mono ?_
    rintro e w1 ⟨rfl, hb1⟩
    obtain ⟨c1, f1, zz, bb⟩ := kept1 hb1
    clear hb1 h1
    rw [HK.out]
    go_wp2_with fail
    refine (spec_sq _ _ _ _ _ _ _ _ _ _ HK.out _).mono ?_
    rintro e w2 ⟨rfl, hb2⟩
    replace bb : Below w.heap.size w w2 := Below.trans (by (repeat (first | with_reducible exact Below.refl _ _ | with_reducible assumption | ((with_reducible refine Bw.set ?_ ?_); rotate_left; focus omega) | ((with_reducible refine Bw.al ?_ ?_); rotate_left; focus (first | omega | (simp; done) | (simp; omega))) | with_reducible refine Below.drew ?_ | with_reducible refine Bw.dr ?_ _))) (hb2.mono (by first | omega | (simp; done) | (simp; omega)))
    first | replace c1 := cell_kept hb2 (by first | omega | (simp; done) | (simp; omega)) c1 | replace c1 := cell_kept hb2 (by first | omega | (simp; done) | (simp; omega)) (cell_alloc c1 (by first | omega | (simp; done) | (simp; omega)) _)
    replace zc1 := lt_cell c1 (by simp)
    replace zz : w.heap.size + 1 ≤ w2.heap.size := by have := hb2.size; first | omega | (simp at this; omega)
    clear hb2
    go_wp2_with fail
    go_ret2
    exact ⟨rfl, by (repeat (first | with_reducible exact Below.refl _ _ | with_reducible assumption | ((with_reducible refine Bw.set ?_ ?_); rotate_left; focus omega) | ((with_reducible refine Bw.al ?_ ?_); rotate_left; focus (first | omega | (simp; done) | (simp; omega))) | with_reducible refine Below.drew ?_ | with_reducible refine Bw.dr ?_ _))⟩
set_option maxHeartbeats 1000000 in
theorem spec_SpokeLength (h l r lo ro rh rd rf cr : Int) (right : Bool) (w : World) : Calls Try.prog 20 #[.agg #[.int .i64 h, .int .i64 l, .int .i64 r, .int .i64 lo, .int .i64 ro, .int .i64 rh, .int .i64 rd, .int .i64 rf, .int .i64 cr], .bool right] w fun e w' => e = .returned (.tuple #[.int .i64 (lenF h l r lo ro rh rd rf cr right).1, .int .i64 (lenF h l r lo ro rh rd rf cr right).2]) ∧ Below w.heap.size w w' := by
  rcases h1 : wheelB h l r lo ro rh rd rf cr with _ | _
  · rw [lenF_n h1]
    go_enter Try.func20, Try.ntmps20
    go_wp2_with fail
    refine (spec_IsWheel _ _ _ _ _ _ _ _ _ _).mono ?_
    rintro e w1 ⟨rfl, hb1⟩
    obtain ⟨c1, f1, zz, bb⟩ := kept1 hb1
    clear hb1
    go_wp2_with fail
    go_ret2
    exact ⟨rfl, by (repeat (first | with_reducible exact Below.refl _ _ | with_reducible assumption | ((with_reducible refine Bw.set ?_ ?_); rotate_left; focus omega) | ((with_reducible refine Bw.al ?_ ?_); rotate_left; focus (first | omega | (simp; done) | (simp; omega))) | with_reducible refine Below.drew ?_ | with_reducible refine Bw.dr ?_ _))⟩
  · rw [lenF_y h1]
    have HK := Lib.hid h1
    go_enter Try.func20, Try.ntmps20
    go_wp2_with fail
    refine (spec_IsWheel _ _ _ _ _ _ _ _ _ _).mono ?_
    rintro e w1 ⟨rfl, hb1⟩
    obtain ⟨c1, f1, zz, bb⟩ := kept1 hb1
    clear hb1 h1
    rw [HK.out]
    go_wp2_with fail
    refine (spec_len _ _ _ _ _ _ _ _ _ _ HK.out _).mono ?_
    rintro e w2 ⟨rfl, hb2⟩
    replace bb : Below w.heap.size w w2 := Below.trans (by (repeat (first | with_reducible exact Below.refl _ _ | with_reducible assumption | ((with_reducible refine Bw.set ?_ ?_); rotate_left; focus omega) | ((with_reducible refine Bw.al ?_ ?_); rotate_left; focus (first | omega | (simp; done) | (simp; omega))) | with_reducible refine Below.drew ?_ | with_reducible refine Bw.dr ?_ _))) (hb2.mono (by first | omega | (simp; done) | (simp; omega)))
    first | replace c1 := cell_kept hb2 (by first | omega | (simp; done) | (simp; omega)) c1 | replace c1 := cell_kept hb2 (by first | omega | (simp; done) | (simp; omega)) (cell_alloc c1 (by first | omega | (simp; done) | (simp; omega)) _)
    replace zc1 := lt_cell c1 (by simp)
    replace zz : w.heap.size + 1 ≤ w2.heap.size := by have := hb2.size; first | omega | (simp at this; omega)
    clear hb2
    go_wp2_with fail
    go_ret2
    exact ⟨rfl, by (repeat (first | with_reducible exact Below.refl _ _ | with_reducible assumption | ((with_reducible refine Bw.set ?_ ?_); rotate_left; focus omega) | ((with_reducible refine Bw.al ?_ ?_); rotate_left; focus (first | omega | (simp; done) | (simp; omega))) | with_reducible refine Below.drew ?_ | with_reducible refine Bw.dr ?_ _))⟩
set_option maxHeartbeats 2000000 in
theorem spec_TensionShare (h l r lo ro rh rd rf cr : Int) (w : World) : Calls Try.prog 22 #[.agg #[.int .i64 h, .int .i64 l, .int .i64 r, .int .i64 lo, .int .i64 ro, .int .i64 rh, .int .i64 rd, .int .i64 rf, .int .i64 cr]] w fun e w' => e = .returned (.tuple #[.int .i64 (tenF h l r lo ro rh rd rf cr).1, .int .i64 (tenF h l r lo ro rh rd rf cr).2]) ∧ Below w.heap.size w w' := by
  rcases h1 : wheelB h l r lo ro rh rd rf cr with _ | _
  · rw [tenF_n h1]
    go_enter Try.func22, Try.ntmps22
    go_wp2_with fail
    refine (spec_IsWheel _ _ _ _ _ _ _ _ _ _).mono ?_
    rintro e w1 ⟨rfl, hb1⟩
    obtain ⟨c1, f1, zz, bb⟩ := kept1 hb1
    clear hb1
    go_wp2_with fail
    go_ret2
    exact ⟨rfl, by (repeat (first | with_reducible exact Below.refl _ _ | with_reducible assumption | ((with_reducible refine Bw.set ?_ ?_); rotate_left; focus omega) | ((with_reducible refine Bw.al ?_ ?_); rotate_left; focus (first | omega | (simp; done) | (simp; omega))) | with_reducible refine Below.drew ?_ | with_reducible refine Bw.dr ?_ _))⟩
  obtain ⟨_, _, _, o0, _, _, _, _, _, _, a0⟩ := whBd h1 false
  obtain ⟨_, _, _, o1, _, _, _, _, _, _, a1⟩ := whBd h1 true
  obtain ⟨L, hL⟩ : ∃ L, offI lo ro rf false = L := ⟨_, rfl⟩
  obtain ⟨R, hR⟩ : ∃ R, offI lo ro rf true = R := ⟨_, rfl⟩
  obtain ⟨a, ha⟩ : ∃ a, spLen h l r lo ro rh rd rf cr false = a := ⟨_, rfl⟩
  obtain ⟨b, hb⟩ : ∃ b, spLen h l r lo ro rh rd rf cr true = b := ⟨_, rfl⟩
  have HK := Lib.hid h1
  have HL := Lib.hid hL
  have HR := Lib.hid hR
  have HA := Lib.hid ha
  have HB := Lib.hid hb
  rw [hL] at o0
  rw [hR] at o1
  rw [ha] at a0
  rw [hb] at a1
  clear h1 hL hR ha hb
  rcases Int.lt_or_le L 1 with h3 | h3
  rotate_left
  rcases Int.lt_or_le R 1 with h4 | h4
  rotate_left
  · have m1 := mul_bd (x := 1000 * R) (n := a) (A := 600000) (B := 10006) ⟨by omega, by omega⟩ ⟨by omega, by omega⟩
    have m2 := mul_bd (x := L) (n := b) (A := 600) (B := 10006) ⟨by omega, by omega⟩ ⟨by omega, by omega⟩
    have m3 : 1 * 1 ≤ L * b := Int.mul_le_mul h3 (by omega) (by omega) (by omega)
    have e1 : IntKind.i64.wrap (1000 * R) = 1000 * R := IntWalk.i64_in _ (by omega)
    have e2 : IntKind.i64.wrap (1000 * R * a) = 1000 * R * a := IntWalk.i64_in _ (by omega)
    have e3 : IntKind.i64.wrap (L * b) = L * b := IntWalk.i64_in _ (by omega)
    rw [tenF_y HK.out HL.out HR.out HA.out HB.out ⟨h3, h4⟩]
    go_enter Try.func22, Try.ntmps22
    go_wp2_with fail
    refine (spec_IsWheel _ _ _ _ _ _ _ _ _ _).mono ?_
    rintro e w1 ⟨rfl, hb1⟩
    obtain ⟨c1, f1, zz, bb⟩ := kept1 hb1
    clear hb1
    rw [HK.out]
    go_upto_region 3 with fail
    have ca : ∀ (y : Aft w1) (i : Nat), y.w.cell? ⟨w.heap.size, i, none⟩ = #[Value.int .i64 h, Value.int .i64 l, Value.int .i64 r, Value.int .i64 lo, Value.int .i64 ro, Value.int .i64 rh, Value.int .i64 rd, Value.int .i64 rf, Value.int .i64 cr][i]? := fun y => cell_kept y.hb (lt_cell c1 (by simp)) c1
    refine region_aft w1 (by kernel_rfl) (by kernel_rfl) (Below.refl _ _) ?_
    repeat (go_big_quiet_step (first | (go_at_call 48; first | with_reducible exact aft_call (spec_off_b HL.out HK.out _) | with_reducible exact aft_call (spec_off_b HR.out HK.out _))))
    refine wpQuiet_nil ?_
    rintro w2 ⟨⟨_, b2⟩, rfl⟩
    replace c1 := cell_kept b2 (lt_cell c1 (by simp)) c1
    replace bb := bb.trans (b2.mono (by omega))
    replace zz : w.heap.size + 1 ≤ w2.heap.size := Nat.le_trans zz b2.size
    clear ca b2
    go_upto_region 4 with fail
    have ca : ∀ (y : Aft w2) (i : Nat), y.w.cell? ⟨w.heap.size, i, none⟩ = #[Value.int .i64 h, Value.int .i64 l, Value.int .i64 r, Value.int .i64 lo, Value.int .i64 ro, Value.int .i64 rh, Value.int .i64 rd, Value.int .i64 rf, Value.int .i64 cr][i]? := fun y => cell_kept y.hb (lt_cell c1 (by simp)) c1
    refine region_aft w2 (by kernel_rfl) (by kernel_rfl) (Below.refl _ _) ?_
    repeat (go_big_quiet_step (first | (go_at_call 41; first | with_reducible exact aft_call (spec_len_b HA.out HK.out _) | with_reducible exact aft_call (spec_len_b HB.out HK.out _)) | (go_at_call 49; exact aft_pure (spec_Nearest _ _ (by omega) (by omega) (by omega) (by omega) _))))
    refine wpQuiet_nil ?_
    rintro w3 ⟨⟨_, b3⟩, rfl⟩
    replace c1 := cell_kept b3 (lt_cell c1 (by simp)) c1
    replace bb := bb.trans (b3.mono (by omega))
    replace zz : w.heap.size + 1 ≤ w3.heap.size := Nat.le_trans zz b3.size
    clear ca b3
    go_wp2_with fail
    refine (spec_Nearest _ _ (by omega) (by omega) (by omega) (by omega) _).mono ?_
    rintro e w4 ⟨rfl, rfl⟩
    go_wp2_with fail
    go_ret2
    exact ⟨rfl, by (repeat (first | with_reducible exact Below.refl _ _ | with_reducible assumption | ((with_reducible refine Bw.set ?_ ?_); rotate_left; focus omega) | ((with_reducible refine Bw.al ?_ ?_); rotate_left; focus (first | omega | (simp; done) | (simp; omega))) | with_reducible refine Below.drew ?_ | with_reducible refine Bw.dr ?_ _))⟩
  · rw [tenF_s HK.out HL.out HR.out (.inl h3)]
    go_enter Try.func22, Try.ntmps22
    go_wp2_with fail
    refine (spec_IsWheel _ _ _ _ _ _ _ _ _ _).mono ?_
    rintro e w1 ⟨rfl, hb1⟩
    obtain ⟨c1, f1, zz, bb⟩ := kept1 hb1
    clear hb1
    rw [HK.out]
    go_upto_region 3 with fail
    have ca : ∀ (y : Aft w1) (i : Nat), y.w.cell? ⟨w.heap.size, i, none⟩ = #[Value.int .i64 h, Value.int .i64 l, Value.int .i64 r, Value.int .i64 lo, Value.int .i64 ro, Value.int .i64 rh, Value.int .i64 rd, Value.int .i64 rf, Value.int .i64 cr][i]? := fun y => cell_kept y.hb (lt_cell c1 (by simp)) c1
    refine region_aft w1 (by kernel_rfl) (by kernel_rfl) (Below.refl _ _) ?_
    repeat (go_big_quiet_step (first | (go_at_call 48; first | with_reducible exact aft_call (spec_off_b HL.out HK.out _) | with_reducible exact aft_call (spec_off_b HR.out HK.out _))))
    refine wpQuiet_nil ?_
    rintro w2 ⟨⟨_, b2⟩, rfl⟩
    replace c1 := cell_kept b2 (lt_cell c1 (by simp)) c1
    replace bb := bb.trans (b2.mono (by omega))
    replace zz : w.heap.size + 1 ≤ w2.heap.size := Nat.le_trans zz b2.size
    clear ca b2
    go_upto_region 4 with fail
    have ca : ∀ (y : Aft w2) (i : Nat), y.w.cell? ⟨w.heap.size, i, none⟩ = #[Value.int .i64 h, Value.int .i64 l, Value.int .i64 r, Value.int .i64 lo, Value.int .i64 ro, Value.int .i64 rh, Value.int .i64 rd, Value.int .i64 rf, Value.int .i64 cr][i]? := fun y => cell_kept y.hb (lt_cell c1 (by simp)) c1
    refine region_aft w2 (by kernel_rfl) (by kernel_rfl) (Below.refl _ _) ?_
    repeat (go_big_quiet_step (first | (go_at_call 41; first | with_reducible exact aft_call (spec_len_b HA.out HK.out _) | with_reducible exact aft_call (spec_len_b HB.out HK.out _)) | (go_at_call 49; exact aft_pure (spec_Nearest _ _ (by omega) (by omega) (by omega) (by omega) _))))
    refine wpQuiet_nil ?_
    rintro w3 ⟨⟨_, b3⟩, rfl⟩
    replace c1 := cell_kept b3 (lt_cell c1 (by simp)) c1
    replace bb := bb.trans (b3.mono (by omega))
    replace zz : w.heap.size + 1 ≤ w3.heap.size := Nat.le_trans zz b3.size
    clear ca b3
    go_wp2_with fail
    go_ret2
    exact ⟨rfl, by (repeat (first | with_reducible exact Below.refl _ _ | with_reducible assumption | ((with_reducible refine Bw.set ?_ ?_); rotate_left; focus omega) | ((with_reducible refine Bw.al ?_ ?_); rotate_left; focus (first | omega | (simp; done) | (simp; omega))) | with_reducible refine Below.drew ?_ | with_reducible refine Bw.dr ?_ _))⟩
  · rw [tenF_s HK.out HL.out HR.out (.inr h4)]
    go_enter Try.func22, Try.ntmps22
    go_wp2_with fail
    refine (spec_IsWheel _ _ _ _ _ _ _ _ _ _).mono ?_
    rintro e w1 ⟨rfl, hb1⟩
    obtain ⟨c1, f1, zz, bb⟩ := kept1 hb1
    clear hb1
    rw [HK.out]
    go_upto_region 3 with fail
    have ca : ∀ (y : Aft w1) (i : Nat), y.w.cell? ⟨w.heap.size, i, none⟩ = #[Value.int .i64 h, Value.int .i64 l, Value.int .i64 r, Value.int .i64 lo, Value.int .i64 ro, Value.int .i64 rh, Value.int .i64 rd, Value.int .i64 rf, Value.int .i64 cr][i]? := fun y => cell_kept y.hb (lt_cell c1 (by simp)) c1
    refine region_aft w1 (by kernel_rfl) (by kernel_rfl) (Below.refl _ _) ?_
    repeat (go_big_quiet_step (first | (go_at_call 48; first | with_reducible exact aft_call (spec_off_b HL.out HK.out _) | with_reducible exact aft_call (spec_off_b HR.out HK.out _))))
    refine wpQuiet_nil ?_
    rintro w2 ⟨⟨_, b2⟩, rfl⟩
    replace c1 := cell_kept b2 (lt_cell c1 (by simp)) c1
    replace bb := bb.trans (b2.mono (by omega))
    replace zz : w.heap.size + 1 ≤ w2.heap.size := Nat.le_trans zz b2.size
    clear ca b2
    go_upto_region 4 with fail
    have ca : ∀ (y : Aft w2) (i : Nat), y.w.cell? ⟨w.heap.size, i, none⟩ = #[Value.int .i64 h, Value.int .i64 l, Value.int .i64 r, Value.int .i64 lo, Value.int .i64 ro, Value.int .i64 rh, Value.int .i64 rd, Value.int .i64 rf, Value.int .i64 cr][i]? := fun y => cell_kept y.hb (lt_cell c1 (by simp)) c1
    refine region_aft w2 (by kernel_rfl) (by kernel_rfl) (Below.refl _ _) ?_
    repeat (go_big_quiet_step (first | (go_at_call 41; first | with_reducible exact aft_call (spec_len_b HA.out HK.out _) | with_reducible exact aft_call (spec_len_b HB.out HK.out _)) | (go_at_call 49; exact aft_pure (spec_Nearest _ _ (by omega) (by omega) (by omega) (by omega) _))))
    refine wpQuiet_nil ?_
    rintro w3 ⟨⟨_, b3⟩, rfl⟩
    replace c1 := cell_kept b3 (lt_cell c1 (by simp)) c1
    replace bb := bb.trans (b3.mono (by omega))
    replace zz : w.heap.size + 1 ≤ w3.heap.size := Nat.le_trans zz b3.size
    clear ca b3
    go_wp2_with fail
    go_ret2
    exact ⟨rfl, by (repeat (first | with_reducible exact Below.refl _ _ | with_reducible assumption | ((with_reducible refine Bw.set ?_ ?_); rotate_left; focus omega) | ((with_reducible refine Bw.al ?_ ?_); rotate_left; focus (first | omega | (simp; done) | (simp; omega))) | with_reducible refine Below.drew ?_ | with_reducible refine Bw.dr ?_ _))⟩

end Go.Proofs.Ytnoiijcpnjgnbaa
