/- The laws' own small functions. Conditions: those that each theorem names. -/
import Derived.Test.YtpejbmfapdocaaaDr
import Derived.Laws.BitsLemmas
import Derived.Laws.Bits64
namespace Go.Proofs.Ytpejbmfapdocaaa
open Go.RowKit

theorem undrewS {X Y : World} (h : Below X.drew.heap.size X.drew Y) : Below X.heap.size X Y := ⟨h.os, h.tape, h.output, h.size, h.block⟩
theorem undrewB {B : Nat} {X Y : World} (h : Below B X.drew Y) : Below B X Y := ⟨h.os, h.tape, h.output, h.size, h.block⟩
theorem leS {X : World} {g : Nat} (h : X.drew.heap.size ≤ g) : X.heap.size ≤ g := h
theorem big_any (A : Option Addr) (n c : Nat) (b : Bool) (w : World) (h : decide (4096 < (n : Int)) = b) (_hn : n ≤ maxLen) : Calls Try.prog 15 #[.slice A n c] w fun e w' => e = .returned (.bool b) ∧ w = w' := by
  go_enter Try.func15, Try.ntmps15
  go_wp2_with fail
  go_ret
  exact ⟨rfl, rfl⟩
set_option maxHeartbeats 400000 in
theorem inside_t (n lo hi : Int) (w : World) (h1 : lo ≤ n) (h2 : n ≤ hi) : Calls Try.prog 37 #[.int .i64 n, .agg #[.int .i64 lo, .int .i64 hi]] w fun e w' => e = .returned (.bool true) ∧ Below w.heap.size w w' := by
  have g1 : decide (lo ≤ n) = true := decide_eq_true h1
  have g2 : decide (n ≤ hi) = true := decide_eq_true h2
  go_enter Try.func37, Try.ntmps37
  go_wp2_with fail
  go_ret
  exact ⟨rfl, by (repeat (first | with_reducible exact Below.refl _ _ | with_reducible assumption | ((with_reducible refine Bw.set ?_ ?_); rotate_left; focus omega) | ((with_reducible refine Bw.al ?_ ?_); rotate_left; focus (first | omega | (simp; done) | (simp; omega))) | with_reducible refine Below.drew ?_ | with_reducible refine Bw.dr ?_ _))⟩
theorem u64_bd (x : Int) : 0 ≤ IntKind.u64.wrap x ∧ IntKind.u64.wrap x < 18446744073709551616 := by rw [IntKind.wrap_u64]; omega
theorem wraps_63 (n : Int) (h₀ : 0 ≤ n) (h₁ : n < 2 ^ 63) : IntKind.u64.wrap n = n := by rw [IntKind.wrap_u64]; omega
theorem and_24 {x : Int} (h0 : 0 ≤ x) (h1 : x < 18446744073709551616) : 0 ≤ bits .and .u64 (x / 8589934592) 16777215 ∧ bits .and .u64 (x / 8589934592) 16777215 < 16777216 := by
  have h := bits_mask .u64 63 (by decide) wraps_63 24 (by decide) (x / 8589934592) (by omega) (by omega)
  have e : ((2 : Int) ^ 24 - 1) = 16777215 := by decide
  have e2 : ((2 : Int) ^ 24) = 16777216 := by decide
  rw [e, e2] at h
  rw [h]
  omega
structure DiceAt (w : World) (g : Nat) (A : Option Addr) (us : List Int) (c p : Nat) (sd : Int) : Prop where
  cells : ∀ i, w.cell? ⟨g, i, none⟩ = #[Value.slice A us.length c, .int .i64 (p : Nat), .int .u64 sd][i]?
  free : ∀ i, w.frozen? ⟨g, i, none⟩ = false
  rd : Rd w g A (bv us)
  code : Code us
  le : p ≤ us.length
  lo : 0 ≤ sd
  hi : sd < 18446744073709551616
def Dice (w : World) (g : Nat) : Prop := ∃ A us c p sd, DiceAt w g A us c p sd
theorem Dice.drw {w : World} {g : Nat} (h : Dice w g) : Dice w.drew g := by
  obtain ⟨A, us, c, p, sd, h⟩ := h
  exact ⟨A, us, c, p, sd, h.cells, h.free, h.rd, h.code, h.le, h.lo, h.hi⟩
def RollP (w : World) (e : Ending) (w' : World) : Prop := ∃ g, w.heap.size ≤ g ∧ e = .returned (.pointer (some ⟨g, 0, none⟩)) ∧ Dice w' g ∧ Below w.heap.size w w'
set_option maxHeartbeats 1000000 in
theorem laws_roll (A : Option Addr) (c : Nat) (us : List Int) (k : Int) (w : World) (hk : 0 ≤ k ∧ k ≤ 1000) (hu : Code us) (hr : Rd w w.heap.size A (bv us)) : Calls Try.prog 46 #[.slice A us.length c, .int .u64 k] w (RollP w) := by
  have HR := Lib.hid hr
  have HU := Lib.hid hu
  have hl := hu.len
  clear hr hu
  go_enter Try.func46, Try.ntmps46
  go_wp2_with fail
  have hs0 : 0 ≤ k * 7919 + (us.length : Int) ∧ k * 7919 + (us.length : Int) < 18446744073709551616 := by omega
  generalize k * 7919 + (us.length : Int) = s0 at *
  go_loopw [6] (fun s6 wr => ∃ (j : Nat) (sd : Int), j ≤ us.length ∧ s6 = .int .i64 j ∧ 0 ≤ sd ∧ sd < 18446744073709551616 ∧ (∀ i, wr.cell? ⟨w.heap.size, i, none⟩ = #[Value.slice A us.length c, .int .i64 0, .int .u64 sd][i]?) ∧ (∀ i, wr.frozen? ⟨w.heap.size, i, none⟩ = false) ∧ Below w.heap.size w wr) (fun s6 _ => us.length - (intOf s6).toNat)
  case atStart => exact ⟨0, s0, Nat.zero_le _, rfl, hs0.1, hs0.2, cell_new w _ _, frz_new w _ _, by (repeat (first | with_reducible exact Below.refl _ _ | with_reducible assumption | ((with_reducible refine Bw.set ?_ ?_); rotate_left; focus omega) | ((with_reducible refine Bw.al ?_ ?_); rotate_left; focus (first | omega | (simp; done) | (simp; omega))) | with_reducible refine Below.drew ?_ | with_reducible refine Bw.dr ?_ _))⟩
  case round =>
    obtain ⟨j, sd, hj, rfl, h0, h1, hc, hf, hb⟩ := hrel
    have HC := Lib.hid hc
    have HF := Lib.hid hf
    have c2 := hc 2
    have f2 := hf 2
    clear hc hf
    by_cases hlt : j < us.length
    · obtain ⟨ad, rfl, ha⟩ := (HR.out.keep hb).byt hlt
      have hx := HU.out.byte j
      generalize us.getD j 0 = x at *
      have e2 : IntKind.u64.wrap x = x := IntWalk.u64_in _ (by omega)
      go_wp2_with fail
      go_region
      all_goals
        have hv := u64_bd (IntKind.u64.wrap (IntKind.u64.wrap (sd * 1099511628211) + x) + 3)
        generalize IntKind.u64.wrap (IntKind.u64.wrap (IntKind.u64.wrap (sd * 1099511628211) + x) + 3) = y at *
        go_wp2_with fail
        go_roundw
        case rel =>
          refine ⟨j + 1, y, by omega, by go_num, hv.1, hv.2, fun i => ?_, frz_put HF.out 2 _, by (repeat (first | with_reducible exact Below.refl _ _ | with_reducible assumption | ((with_reducible refine Bw.set ?_ ?_); rotate_left; focus omega) | ((with_reducible refine Bw.al ?_ ?_); rotate_left; focus (first | omega | (simp; done) | (simp; omega))) | with_reducible refine Below.drew ?_ | with_reducible refine Bw.dr ?_ _))⟩
          have := cell_put HC.out 2 (.int .u64 y) (by simp) i
          simpa using this
        case measure => simp [intOf]; omega
    · have g3 : us.length ≤ j := by omega
      go_wp2_with fail
      go_ret
      exact ⟨_, Nat.le_refl _, rfl, ⟨_, us, c, 0, sd, HC.out, HF.out, HR.out.keep hb, HU.out, Nat.zero_le _, h0, h1⟩, hb⟩
def BelowP (g : Nat) (n : Int) (w : World) (e : Ending) (w' : World) : Prop := (∃ x : Int, (0 ≤ x ∧ x < n) ∧ e = .returned (.int .i64 x)) ∧ Below g w w'
set_option maxHeartbeats 1000000 in
theorem laws_below (g : Nat) (n : Int) (w : World) (hs : Dice w g) (hn : 1 ≤ n ∧ n ≤ 1000000000000000) : Calls Try.prog 47 #[.pointer (some ⟨g, 0, none⟩), .int .i64 n] w (BelowP g n w) := by
  obtain ⟨A, us, c, p, sd, h⟩ := hs
  have HR := Lib.hid h.rd
  have HU := Lib.hid h.code
  have HC := Lib.hid h.cells
  have c2 := h.cells 2
  have f2 := h.free 2
  have HF := Lib.hid h.free
  have hl := h.code.len
  have hle := h.le
  clear h
  go_enter Try.func47, Try.ntmps47
  go_upto_region 3 with fail
  have hy := u64_bd (IntKind.u64.wrap (sd * 6364136223846793005) + 1442695040888963407)
  generalize IntKind.u64.wrap (IntKind.u64.wrap (sd * 6364136223846793005) + 1442695040888963407) = y at *
  have hz := and_24 hy.1 hy.2
  generalize bits .and .u64 (y / 8589934592) 16777215 = z at *
  have ez : wrap64 z = z := IntWalk.wrap64_in z (by omega)
  rw [ez]
  have bb : Below g w (w.setCell ⟨g, 2, none⟩ (.int .u64 y)) := by (repeat (first | with_reducible exact Below.refl _ _ | with_reducible assumption | ((with_reducible refine Bw.set ?_ ?_); rotate_left; focus omega) | ((with_reducible refine Bw.al ?_ ?_); rotate_left; focus (first | omega | (simp; done) | (simp; omega))) | with_reducible refine Below.drew ?_ | with_reducible refine Bw.dr ?_ _))
  have hc := cell_put HC.out 2 (.int .u64 y) (by simp)
  have hf := frz_put HF.out (g' := g) 2 (.int .u64 y)
  generalize w.setCell ⟨g, 2, none⟩ (.int .u64 y) = w1 at *
  have c0 := hc 0
  have c1 := hc 1
  have f1 := hf 1
  clear hc hf c2 f2 ez
  by_cases hp : p < us.length
  · obtain ⟨ad, rfl, ha⟩ := (HR.out.keep bb).byt hp
    have hx := HU.out.byte p
    generalize us.getD p 0 = x at *
    have g1 : decide (p < us.length) = true := decide_eq_true hp
    have en := Int.emod_nonneg (z + x) (b := n) (by omega)
    have en2 := Int.emod_lt_of_pos (z + x) (b := n) (by omega)
    go_quiet (fail)
    go_wp2_with fail
    go_quiet (fail)
    go_wp2_with fail
    go_ret
    exact ⟨⟨_, ⟨en, en2⟩, rfl⟩, by (repeat (first | with_reducible exact Below.refl _ _ | with_reducible assumption | ((with_reducible refine Bw.set ?_ ?_); rotate_left; focus omega) | ((with_reducible refine Bw.al ?_ ?_); rotate_left; focus (first | omega | (simp; done) | (simp; omega))) | with_reducible refine Below.drew ?_ | with_reducible refine Bw.dr ?_ _))⟩
  · have g1 : decide (p < us.length) = false := decide_eq_false hp
    have en := Int.emod_nonneg z (b := n) (by omega)
    have en2 := Int.emod_lt_of_pos z (b := n) (by omega)
    go_quiet (fail)
    go_wp2_with fail
    go_ret
    exact ⟨⟨_, ⟨en, en2⟩, rfl⟩, by (repeat (first | with_reducible exact Below.refl _ _ | with_reducible assumption | ((with_reducible refine Bw.set ?_ ?_); rotate_left; focus omega) | ((with_reducible refine Bw.al ?_ ?_); rotate_left; focus (first | omega | (simp; done) | (simp; omega))) | with_reducible refine Below.drew ?_ | with_reducible refine Bw.dr ?_ _))⟩

end Go.Proofs.Ytpejbmfapdocaaa
