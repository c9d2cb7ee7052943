/- SpokesFor: lengths of a stock for both sides. Condition: the slice reads as a list. -/
import Derived.Test.YtnoiijcpnjgnbaaSpC
import Derived.Test.YtnoiijcpnjgnbaaSpB
namespace Go.Proofs.Ytnoiijcpnjgnbaa
open Go.RowKit

def sfF (h l r lo ro rh rd rf cr : Int) (xs : List Int) : Int × Int × Int :=
  if wheelB h l r lo ro rh rd rf cr then (if stockB xs then (if chF xs (spLen h l r lo ro rh rd rf cr false) < 0 ∨ chF xs (spLen h l r lo ro rh rd rf cr true) < 0 then (0, 0, 4) else (chF xs (spLen h l r lo ro rh rd rf cr false), chF xs (spLen h l r lo ro rh rd rf cr true), 0)) else (0, 0, 1)) else (0, 0, 1)
theorem sfF_n {h l r lo ro rh rd rf cr : Int} {xs : List Int} (k : wheelB h l r lo ro rh rd rf cr = false) : sfF h l r lo ro rh rd rf cr xs = (0, 0, 1) := by rw [sfF, k]; rfl
theorem sfF_s {h l r lo ro rh rd rf cr : Int} {xs : List Int} (k : wheelB h l r lo ro rh rd rf cr = true) (k2 : stockB xs = false) : sfF h l r lo ro rh rd rf cr xs = (0, 0, 1) := by rw [sfF, k, k2]; rfl
theorem sfF_o {h l r lo ro rh rd rf cr a b : Int} {xs : List Int} (k : wheelB h l r lo ro rh rd rf cr = true) (k2 : stockB xs = true) (ha : spLen h l r lo ro rh rd rf cr false = a) (hb : spLen h l r lo ro rh rd rf cr true = b) (hh : chF xs a < 0 ∨ chF xs b < 0) : sfF h l r lo ro rh rd rf cr xs = (0, 0, 4) := by
  rw [sfF, if_pos k, if_pos k2, ha, hb, if_pos hh]
theorem sfF_y {h l r lo ro rh rd rf cr a b : Int} {xs : List Int} (k : wheelB h l r lo ro rh rd rf cr = true) (k2 : stockB xs = true) (ha : spLen h l r lo ro rh rd rf cr false = a) (hb : spLen h l r lo ro rh rd rf cr true = b) (hh : ¬ (chF xs a < 0 ∨ chF xs b < 0)) : sfF h l r lo ro rh rd rf cr xs = (chF xs a, chF xs b, 0) := by
  rw [sfF, if_pos k, if_pos k2, ha, hb, if_neg hh]

set_option maxHeartbeats 4000000 in
theorem impl_SpokesFor (h l r lo ro rh rd rf cr : Int) (A : Option Addr) (c : Nat) (xs : List Int) (w : World) (hl : xs.length ≤ 1048576) (hr : Rd w w.heap.size A (iv xs)) :
    Calls Try.prog 17 #[.agg #[.int .i64 h, .int .i64 l, .int .i64 r, .int .i64 lo, .int .i64 ro, .int .i64 rh, .int .i64 rd, .int .i64 rf, .int .i64 cr], .slice A xs.length c] w fun e w' => e = .returned (.tuple #[.int .i64 (sfF h l r lo ro rh rd rf cr xs).1, .int .i64 (sfF h l r lo ro rh rd rf cr xs).2.1, .int .i64 (sfF h l r lo ro rh rd rf cr xs).2.2]) ∧ Below w.heap.size w w' := by
  have HR := Lib.hid hr
  clear hr
  rcases h1 : wheelB h l r lo ro rh rd rf cr with _ | _
  · rw [sfF_n h1]
    have HK := Lib.hid h1
    clear h1
    go_enter Try.func17, Try.ntmps17
    go_wp2_with fail
    refine (impl_IsWheel _ _ _ _ _ _ _ _ _ _).mono ?_
    rintro e w1 ⟨rfl, hb1⟩
    obtain ⟨c1, f1, zz, bb⟩ := kept1 hb1
    clear hb1 f1
    rw [HK.out]
    go_wp2_with fail
    go_ret3
    exact ⟨rfl, by (repeat (first | with_reducible exact Below.refl _ _ | with_reducible assumption | ((with_reducible refine Bw.set ?_ ?_); rotate_left; focus omega) | ((with_reducible refine Bw.al ?_ ?_); rotate_left; focus (first | omega | (simp; done) | (simp; omega))) | with_reducible refine Below.drew ?_ | with_reducible refine Bw.dr ?_ _))⟩
  have a0 := (whBd h1 false).l0
  have b0 := (whBd h1 true).l0
  obtain ⟨a, ha⟩ : ∃ a, spLen h l r lo ro rh rd rf cr false = a := ⟨_, rfl⟩
  obtain ⟨b, hb⟩ : ∃ b, spLen h l r lo ro rh rd rf cr true = b := ⟨_, rfl⟩
  rw [ha] at a0
  rw [hb] at b0
  have HK := Lib.hid h1
  have HA := Lib.hid ha
  have HB := Lib.hid hb
  clear h1 ha hb
  rcases h2 : stockB xs with _ | _
  · rw [sfF_s HK.out h2]
    have H2 := Lib.hid h2
    clear h2
    go_enter Try.func17, Try.ntmps17
    go_wp2_with fail
    refine (impl_IsWheel _ _ _ _ _ _ _ _ _ _).mono ?_
    rintro e w1 ⟨rfl, hb1⟩
    obtain ⟨c1, f1, zz, bb⟩ := kept1 hb1
    clear hb1 f1
    rw [HK.out]
    have R1 := Lib.hid ((HR.out.keep bb).more bb.size)
    go_wp2_with fail
    refine (impl_isStock _ _ _ _ hl R1.out).mono ?_
    rintro e w2 ⟨rfl, rfl⟩
    rw [H2.out]
    go_wp2_with fail
    go_ret3
    exact ⟨rfl, by (repeat (first | with_reducible exact Below.refl _ _ | with_reducible assumption | ((with_reducible refine Bw.set ?_ ?_); rotate_left; focus omega) | ((with_reducible refine Bw.al ?_ ?_); rotate_left; focus (first | omega | (simp; done) | (simp; omega))) | with_reducible refine Below.drew ?_ | with_reducible refine Bw.dr ?_ _))⟩
  have H2 := Lib.hid h2
  clear h2
  by_cases hh : chF xs a < 0 ∨ chF xs b < 0
  rotate_left
  · rw [sfF_y HK.out H2.out HA.out HB.out hh]
    have q1 : 0 ≤ chF xs a := by omega
    have q2 : 0 ≤ chF xs b := by omega
    clear hh
    go_enter Try.func17, Try.ntmps17
    go_wp2_with fail
    refine (impl_IsWheel _ _ _ _ _ _ _ _ _ _).mono ?_
    rintro e w1 ⟨rfl, hb1⟩
    obtain ⟨c1, f1, zz, bb⟩ := kept1 hb1
    clear hb1 f1
    rw [HK.out]
    have R1 := Lib.hid ((HR.out.keep bb).more bb.size)
    go_wp2_with fail
    refine (impl_isStock _ _ _ _ hl R1.out).mono ?_
    rintro e w2 ⟨rfl, rfl⟩
    rw [H2.out]
    go_wp2_with fail
    have ca : ∀ (y : Aft w1) (i : Nat), y.w.cell? ⟨w.heap.size, i, none⟩ = #[Value.int .i64 h, Value.int .i64 l, Value.int .i64 r, Value.int .i64 lo, Value.int .i64 ro, Value.int .i64 rh, Value.int .i64 rd, Value.int .i64 rf, Value.int .i64 cr][i]? := fun y => cell_kept y.hb (lt_cell c1 (by simp)) c1
    have RY := Lib.hid (fun (y : Aft w1) => (((HR.out.keep bb).more bb.size).keep y.hb).more y.hb.size)
    refine region_aft w1 (by kernel_rfl) (by kernel_rfl) (Below.refl _ _) ?_
    repeat (go_big_quiet_step (first | (go_at_call 45; first | with_reducible exact aft_call (impl_len_b HA.out HK.out _) | with_reducible exact aft_call (impl_len_b HB.out HK.out _)) | (go_at_call 39; exact aft_pure (impl_choose _ _ _ _ _ hl (by omega) (by omega) (RY.out _)))))
    refine wpQuiet_nil ?_
    rintro w3 ⟨⟨_, b3⟩, rfl⟩
    replace bb := bb.trans (b3.mono (by omega))
    clear ca RY b3
    go_wp2_with fail
    go_ret3
    exact ⟨rfl, by (repeat (first | with_reducible exact Below.refl _ _ | with_reducible assumption | ((with_reducible refine Bw.set ?_ ?_); rotate_left; focus omega) | ((with_reducible refine Bw.al ?_ ?_); rotate_left; focus (first | omega | (simp; done) | (simp; omega))) | with_reducible refine Below.drew ?_ | with_reducible refine Bw.dr ?_ _))⟩
  rw [sfF_o HK.out H2.out HA.out HB.out hh]
  rcases Int.lt_or_le (chF xs a) 0 with q1 | q1
  · clear hh
    go_enter Try.func17, Try.ntmps17
    go_wp2_with fail
    refine (impl_IsWheel _ _ _ _ _ _ _ _ _ _).mono ?_
    rintro e w1 ⟨rfl, hb1⟩
    obtain ⟨c1, f1, zz, bb⟩ := kept1 hb1
    clear hb1 f1
    rw [HK.out]
    have R1 := Lib.hid ((HR.out.keep bb).more bb.size)
    go_wp2_with fail
    refine (impl_isStock _ _ _ _ hl R1.out).mono ?_
    rintro e w2 ⟨rfl, rfl⟩
    rw [H2.out]
    go_wp2_with fail
    have ca : ∀ (y : Aft w1) (i : Nat), y.w.cell? ⟨w.heap.size, i, none⟩ = #[Value.int .i64 h, Value.int .i64 l, Value.int .i64 r, Value.int .i64 lo, Value.int .i64 ro, Value.int .i64 rh, Value.int .i64 rd, Value.int .i64 rf, Value.int .i64 cr][i]? := fun y => cell_kept y.hb (lt_cell c1 (by simp)) c1
    have RY := Lib.hid (fun (y : Aft w1) => (((HR.out.keep bb).more bb.size).keep y.hb).more y.hb.size)
    refine region_aft w1 (by kernel_rfl) (by kernel_rfl) (Below.refl _ _) ?_
    repeat (go_big_quiet_step (first | (go_at_call 45; first | with_reducible exact aft_call (impl_len_b HA.out HK.out _) | with_reducible exact aft_call (impl_len_b HB.out HK.out _)) | (go_at_call 39; exact aft_pure (impl_choose _ _ _ _ _ hl (by omega) (by omega) (RY.out _)))))
    refine wpQuiet_nil ?_
    rintro w3 ⟨⟨_, b3⟩, rfl⟩
    replace bb := bb.trans (b3.mono (by omega))
    clear ca RY b3
    go_wp2_with fail
    go_ret3
    exact ⟨rfl, by (repeat (first | with_reducible exact Below.refl _ _ | with_reducible assumption | ((with_reducible refine Bw.set ?_ ?_); rotate_left; focus omega) | ((with_reducible refine Bw.al ?_ ?_); rotate_left; focus (first | omega | (simp; done) | (simp; omega))) | with_reducible refine Below.drew ?_ | with_reducible refine Bw.dr ?_ _))⟩
  · have q2 : chF xs b < 0 := by omega
    clear hh
    go_enter Try.func17, Try.ntmps17
    go_wp2_with fail
    refine (impl_IsWheel _ _ _ _ _ _ _ _ _ _).mono ?_
    rintro e w1 ⟨rfl, hb1⟩
    obtain ⟨c1, f1, zz, bb⟩ := kept1 hb1
    clear hb1 f1
    rw [HK.out]
    have R1 := Lib.hid ((HR.out.keep bb).more bb.size)
    go_wp2_with fail
    refine (impl_isStock _ _ _ _ hl R1.out).mono ?_
    rintro e w2 ⟨rfl, rfl⟩
    rw [H2.out]
    go_wp2_with fail
    have ca : ∀ (y : Aft w1) (i : Nat), y.w.cell? ⟨w.heap.size, i, none⟩ = #[Value.int .i64 h, Value.int .i64 l, Value.int .i64 r, Value.int .i64 lo, Value.int .i64 ro, Value.int .i64 rh, Value.int .i64 rd, Value.int .i64 rf, Value.int .i64 cr][i]? := fun y => cell_kept y.hb (lt_cell c1 (by simp)) c1
    have RY := Lib.hid (fun (y : Aft w1) => (((HR.out.keep bb).more bb.size).keep y.hb).more y.hb.size)
    refine region_aft w1 (by kernel_rfl) (by kernel_rfl) (Below.refl _ _) ?_
    repeat (go_big_quiet_step (first | (go_at_call 45; first | with_reducible exact aft_call (impl_len_b HA.out HK.out _) | with_reducible exact aft_call (impl_len_b HB.out HK.out _)) | (go_at_call 39; exact aft_pure (impl_choose _ _ _ _ _ hl (by omega) (by omega) (RY.out _)))))
    refine wpQuiet_nil ?_
    rintro w3 ⟨⟨_, b3⟩, rfl⟩
    replace bb := bb.trans (b3.mono (by omega))
    clear ca RY b3
    go_wp2_with fail
    go_ret3
    exact ⟨rfl, by (repeat (first | with_reducible exact Below.refl _ _ | with_reducible assumption | ((with_reducible refine Bw.set ?_ ?_); rotate_left; focus omega) | ((with_reducible refine Bw.al ?_ ?_); rotate_left; focus (first | omega | (simp; done) | (simp; omega))) | with_reducible refine Below.drew ?_ | with_reducible refine Bw.dr ?_ _))⟩
set_option maxHeartbeats 4000000 in
theorem spec_SpokesFor (h l r lo ro rh rd rf cr : Int) (A : Option Addr) (c : Nat) (xs : List Int) (w : World) (hl : xs.length ≤ 1048576) (hr : Rd w w.heap.size A (iv xs)) :
    Calls Try.prog 15 #[.agg #[.int .i64 h, .int .i64 l, .int .i64 r, .int .i64 lo, .int .i64 ro, .int .i64 rh, .int .i64 rd, .int .i64 rf, .int .i64 cr], .slice A xs.length c] w fun e w' => e = .returned (.tuple #[.int .i64 (sfF h l r lo ro rh rd rf cr xs).1, .int .i64 (sfF h l r lo ro rh rd rf cr xs).2.1, .int .i64 (sfF h l r lo ro rh rd rf cr xs).2.2]) ∧ Below w.heap.size w w' := by
  have HR := Lib.hid hr
  clear hr
  rcases h1 : wheelB h l r lo ro rh rd rf cr with _ | _
  · rw [sfF_n h1]
    have HK := Lib.hid h1
    clear h1
    go_enter Try.func15, Try.ntmps15
    go_wp2_with fail
    refine (spec_IsWheel _ _ _ _ _ _ _ _ _ _).mono ?_
    rintro e w1 ⟨rfl, hb1⟩
    obtain ⟨c1, f1, zz, bb⟩ := kept1 hb1
    clear hb1 f1
    rw [HK.out]
    go_wp2_with fail
    go_ret3
    exact ⟨rfl, by (repeat (first | with_reducible exact Below.refl _ _ | with_reducible assumption | ((with_reducible refine Bw.set ?_ ?_); rotate_left; focus omega) | ((with_reducible refine Bw.al ?_ ?_); rotate_left; focus (first | omega | (simp; done) | (simp; omega))) | with_reducible refine Below.drew ?_ | with_reducible refine Bw.dr ?_ _))⟩
  have a0 := (whBd h1 false).l0
  have b0 := (whBd h1 true).l0
  obtain ⟨a, ha⟩ : ∃ a, spLen h l r lo ro rh rd rf cr false = a := ⟨_, rfl⟩
  obtain ⟨b, hb⟩ : ∃ b, spLen h l r lo ro rh rd rf cr true = b := ⟨_, rfl⟩
  rw [ha] at a0
  rw [hb] at b0
  have HK := Lib.hid h1
  have HA := Lib.hid ha
  have HB := Lib.hid hb
  clear h1 ha hb
  rcases h2 : stockB xs with _ | _
  · rw [sfF_s HK.out h2]
    have H2 := Lib.hid h2
    clear h2
    go_enter Try.func15, Try.ntmps15
    go_wp2_with fail
    refine (spec_IsWheel _ _ _ _ _ _ _ _ _ _).mono ?_
    rintro e w1 ⟨rfl, hb1⟩
    obtain ⟨c1, f1, zz, bb⟩ := kept1 hb1
    clear hb1 f1
    rw [HK.out]
    have R1 := Lib.hid ((HR.out.keep bb).more bb.size)
    go_wp2_with fail
    refine (spec_Stock _ _ _ _ hl R1.out).mono ?_
    rintro e w2 ⟨rfl, hb2⟩
    replace bb : Below w.heap.size w w2 := Below.trans (by (repeat (first | with_reducible exact Below.refl _ _ | with_reducible assumption | ((with_reducible refine Bw.set ?_ ?_); rotate_left; focus omega) | ((with_reducible refine Bw.al ?_ ?_); rotate_left; focus (first | omega | (simp; done) | (simp; omega))) | with_reducible refine Below.drew ?_ | with_reducible refine Bw.dr ?_ _))) (hb2.mono (by first | omega | (simp; done) | (simp; omega)))
    first | replace c1 := cell_kept hb2 (by first | omega | (simp; done) | (simp; omega)) c1 | replace c1 := cell_kept hb2 (by first | omega | (simp; done) | (simp; omega)) (cell_alloc c1 (by first | omega | (simp; done) | (simp; omega)) _)
    replace zc1 := lt_cell c1 (by simp)
    replace zz : w.heap.size + 1 ≤ w2.heap.size := by have := hb2.size; first | omega | (simp at this; omega)
    clear hb2
    rw [H2.out]
    go_wp2_with fail
    go_ret3
    exact ⟨rfl, by (repeat (first | with_reducible exact Below.refl _ _ | with_reducible assumption | ((with_reducible refine Bw.set ?_ ?_); rotate_left; focus omega) | ((with_reducible refine Bw.al ?_ ?_); rotate_left; focus (first | omega | (simp; done) | (simp; omega))) | with_reducible refine Below.drew ?_ | with_reducible refine Bw.dr ?_ _))⟩
  have H2 := Lib.hid h2
  clear h2
  by_cases hh : chF xs a < 0 ∨ chF xs b < 0
  rotate_left
  · rw [sfF_y HK.out H2.out HA.out HB.out hh]
    have q1 : 0 ≤ chF xs a := by omega
    have q2 : 0 ≤ chF xs b := by omega
    clear hh
    go_enter Try.func15, Try.ntmps15
    go_wp2_with fail
    refine (spec_IsWheel _ _ _ _ _ _ _ _ _ _).mono ?_
    rintro e w1 ⟨rfl, hb1⟩
    obtain ⟨c1, f1, zz, bb⟩ := kept1 hb1
    clear hb1 f1
    rw [HK.out]
    have R1 := Lib.hid ((HR.out.keep bb).more bb.size)
    go_wp2_with fail
    refine (spec_Stock _ _ _ _ hl R1.out).mono ?_
    rintro e w2 ⟨rfl, hb2⟩
    replace bb : Below w.heap.size w w2 := Below.trans (by (repeat (first | with_reducible exact Below.refl _ _ | with_reducible assumption | ((with_reducible refine Bw.set ?_ ?_); rotate_left; focus omega) | ((with_reducible refine Bw.al ?_ ?_); rotate_left; focus (first | omega | (simp; done) | (simp; omega))) | with_reducible refine Below.drew ?_ | with_reducible refine Bw.dr ?_ _))) (hb2.mono (by first | omega | (simp; done) | (simp; omega)))
    first | replace c1 := cell_kept hb2 (by first | omega | (simp; done) | (simp; omega)) c1 | replace c1 := cell_kept hb2 (by first | omega | (simp; done) | (simp; omega)) (cell_alloc c1 (by first | omega | (simp; done) | (simp; omega)) _)
    replace zc1 := lt_cell c1 (by simp)
    replace zz : w.heap.size + 1 ≤ w2.heap.size := by have := hb2.size; first | omega | (simp at this; omega)
    clear hb2
    rw [H2.out]
    go_wp2_with fail
    have ca : ∀ (y : Aft w2) (i : Nat), y.w.cell? ⟨w.heap.size, i, none⟩ = #[Value.int .i64 h, Value.int .i64 l, Value.int .i64 r, Value.int .i64 lo, Value.int .i64 ro, Value.int .i64 rh, Value.int .i64 rd, Value.int .i64 rf, Value.int .i64 cr][i]? := fun y => cell_kept y.hb (lt_cell c1 (by simp)) c1
    have RY := Lib.hid (fun (y : Aft w2) => (((HR.out.keep bb).more bb.size).keep y.hb).more y.hb.size)
    refine region_aft w2 (by kernel_rfl) (by kernel_rfl) (Below.refl _ _) ?_
    repeat (go_big_quiet_step (first | (go_at_call 41; first | with_reducible exact aft_call (spec_len_b HA.out HK.out _) | with_reducible exact aft_call (spec_len_b HB.out HK.out _))))
    refine wpQuiet_nil ?_
    rintro w3 ⟨⟨_, b3⟩, rfl⟩
    replace bb := bb.trans (b3.mono (by omega))
    clear ca RY b3
    have R3 := Lib.hid ((HR.out.keep bb).more bb.size)
    go_wp2_with fail
    refine (spec_Choose _ _ _ _ _ hl (by omega) (by omega) R3.out).mono ?_
    rintro e w4 ⟨rfl, rfl⟩
    go_wp2_with fail
    refine (spec_Choose _ _ _ _ _ hl (by omega) (by omega) R3.out).mono ?_
    rintro e w5 ⟨rfl, rfl⟩
    go_wp2_with fail
    go_ret3
    exact ⟨rfl, by (repeat (first | with_reducible exact Below.refl _ _ | with_reducible assumption | ((with_reducible refine Bw.set ?_ ?_); rotate_left; focus omega) | ((with_reducible refine Bw.al ?_ ?_); rotate_left; focus (first | omega | (simp; done) | (simp; omega))) | with_reducible refine Below.drew ?_ | with_reducible refine Bw.dr ?_ _))⟩
  rw [sfF_o HK.out H2.out HA.out HB.out hh]
  rcases Int.lt_or_le (chF xs a) 0 with q1 | q1
  · clear hh
    go_enter Try.func15, Try.ntmps15
    go_wp2_with fail
    refine (spec_IsWheel _ _ _ _ _ _ _ _ _ _).mono ?_
    rintro e w1 ⟨rfl, hb1⟩
    obtain ⟨c1, f1, zz, bb⟩ := kept1 hb1
    clear hb1 f1
    rw [HK.out]
    have R1 := Lib.hid ((HR.out.keep bb).more bb.size)
    go_wp2_with fail
    refine (spec_Stock _ _ _ _ hl R1.out).mono ?_
    rintro e w2 ⟨rfl, hb2⟩
    replace bb : Below w.heap.size w w2 := Below.trans (by (repeat (first | with_reducible exact Below.refl _ _ | with_reducible assumption | ((with_reducible refine Bw.set ?_ ?_); rotate_left; focus omega) | ((with_reducible refine Bw.al ?_ ?_); rotate_left; focus (first | omega | (simp; done) | (simp; omega))) | with_reducible refine Below.drew ?_ | with_reducible refine Bw.dr ?_ _))) (hb2.mono (by first | omega | (simp; done) | (simp; omega)))
    first | replace c1 := cell_kept hb2 (by first | omega | (simp; done) | (simp; omega)) c1 | replace c1 := cell_kept hb2 (by first | omega | (simp; done) | (simp; omega)) (cell_alloc c1 (by first | omega | (simp; done) | (simp; omega)) _)
    replace zc1 := lt_cell c1 (by simp)
    replace zz : w.heap.size + 1 ≤ w2.heap.size := by have := hb2.size; first | omega | (simp at this; omega)
    clear hb2
    rw [H2.out]
    go_wp2_with fail
    have ca : ∀ (y : Aft w2) (i : Nat), y.w.cell? ⟨w.heap.size, i, none⟩ = #[Value.int .i64 h, Value.int .i64 l, Value.int .i64 r, Value.int .i64 lo, Value.int .i64 ro, Value.int .i64 rh, Value.int .i64 rd, Value.int .i64 rf, Value.int .i64 cr][i]? := fun y => cell_kept y.hb (lt_cell c1 (by simp)) c1
    have RY := Lib.hid (fun (y : Aft w2) => (((HR.out.keep bb).more bb.size).keep y.hb).more y.hb.size)
    refine region_aft w2 (by kernel_rfl) (by kernel_rfl) (Below.refl _ _) ?_
    repeat (go_big_quiet_step (first | (go_at_call 41; first | with_reducible exact aft_call (spec_len_b HA.out HK.out _) | with_reducible exact aft_call (spec_len_b HB.out HK.out _))))
    refine wpQuiet_nil ?_
    rintro w3 ⟨⟨_, b3⟩, rfl⟩
    replace bb := bb.trans (b3.mono (by omega))
    clear ca RY b3
    have R3 := Lib.hid ((HR.out.keep bb).more bb.size)
    go_wp2_with fail
    refine (spec_Choose _ _ _ _ _ hl (by omega) (by omega) R3.out).mono ?_
    rintro e w4 ⟨rfl, rfl⟩
    go_wp2_with fail
    refine (spec_Choose _ _ _ _ _ hl (by omega) (by omega) R3.out).mono ?_
    rintro e w5 ⟨rfl, rfl⟩
    go_wp2_with fail
    go_ret3
    exact ⟨rfl, by (repeat (first | with_reducible exact Below.refl _ _ | with_reducible assumption | ((with_reducible refine Bw.set ?_ ?_); rotate_left; focus omega) | ((with_reducible refine Bw.al ?_ ?_); rotate_left; focus (first | omega | (simp; done) | (simp; omega))) | with_reducible refine Below.drew ?_ | with_reducible refine Bw.dr ?_ _))⟩
  · have q2 : chF xs b < 0 := by omega
    clear hh
    go_enter Try.func15, Try.ntmps15
    go_wp2_with fail
    refine (spec_IsWheel _ _ _ _ _ _ _ _ _ _).mono ?_
    rintro e w1 ⟨rfl, hb1⟩
    obtain ⟨c1, f1, zz, bb⟩ := kept1 hb1
    clear hb1 f1
    rw [HK.out]
    have R1 := Lib.hid ((HR.out.keep bb).more bb.size)
    go_wp2_with fail
    refine (spec_Stock _ _ _ _ hl R1.out).mono ?_
    rintro e w2 ⟨rfl, hb2⟩
    replace bb : Below w.heap.size w w2 := Below.trans (by (repeat (first | with_reducible exact Below.refl _ _ | with_reducible assumption | ((with_reducible refine Bw.set ?_ ?_); rotate_left; focus omega) | ((with_reducible refine Bw.al ?_ ?_); rotate_left; focus (first | omega | (simp; done) | (simp; omega))) | with_reducible refine Below.drew ?_ | with_reducible refine Bw.dr ?_ _))) (hb2.mono (by first | omega | (simp; done) | (simp; omega)))
    first | replace c1 := cell_kept hb2 (by first | omega | (simp; done) | (simp; omega)) c1 | replace c1 := cell_kept hb2 (by first | omega | (simp; done) | (simp; omega)) (cell_alloc c1 (by first | omega | (simp; done) | (simp; omega)) _)
    replace zc1 := lt_cell c1 (by simp)
    replace zz : w.heap.size + 1 ≤ w2.heap.size := by have := hb2.size; first | omega | (simp at this; omega)
    clear hb2
    rw [H2.out]
    go_wp2_with fail
    have ca : ∀ (y : Aft w2) (i : Nat), y.w.cell? ⟨w.heap.size, i, none⟩ = #[Value.int .i64 h, Value.int .i64 l, Value.int .i64 r, Value.int .i64 lo, Value.int .i64 ro, Value.int .i64 rh, Value.int .i64 rd, Value.int .i64 rf, Value.int .i64 cr][i]? := fun y => cell_kept y.hb (lt_cell c1 (by simp)) c1
    have RY := Lib.hid (fun (y : Aft w2) => (((HR.out.keep bb).more bb.size).keep y.hb).more y.hb.size)
    refine region_aft w2 (by kernel_rfl) (by kernel_rfl) (Below.refl _ _) ?_
    repeat (go_big_quiet_step (first | (go_at_call 41; first | with_reducible exact aft_call (spec_len_b HA.out HK.out _) | with_reducible exact aft_call (spec_len_b HB.out HK.out _))))
    refine wpQuiet_nil ?_
    rintro w3 ⟨⟨_, b3⟩, rfl⟩
    replace bb := bb.trans (b3.mono (by omega))
    clear ca RY b3
    have R3 := Lib.hid ((HR.out.keep bb).more bb.size)
    go_wp2_with fail
    refine (spec_Choose _ _ _ _ _ hl (by omega) (by omega) R3.out).mono ?_
    rintro e w4 ⟨rfl, rfl⟩
    go_wp2_with fail
    refine (spec_Choose _ _ _ _ _ hl (by omega) (by omega) R3.out).mono ?_
    rintro e w5 ⟨rfl, rfl⟩
    go_wp2_with fail
    go_ret3
    exact ⟨rfl, by (repeat (first | with_reducible exact Below.refl _ _ | with_reducible assumption | ((with_reducible refine Bw.set ?_ ?_); rotate_left; focus omega) | ((with_reducible refine Bw.al ?_ ?_); rotate_left; focus (first | omega | (simp; done) | (simp; omega))) | with_reducible refine Below.drew ?_ | with_reducible refine Bw.dr ?_ _))⟩

end Go.Proofs.Ytnoiijcpnjgnbaa
