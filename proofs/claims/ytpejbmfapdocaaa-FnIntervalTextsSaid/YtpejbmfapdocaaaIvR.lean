/- Intervals read. Conditions: those that each theorem names. -/
import Derived.Test.YtpejbmfapdocaaaIvQ
import Derived.Test.YtpejbmfapdocaaaRm
namespace Go.Proofs.Ytpejbmfapdocaaa
open Go.RowKit

set_option maxHeartbeats 4000000 in
theorem impl_ReadInterval_n (s : ByteArray) (w : World) (hs : s.size ≤ 1048576) (hno : ∀ a b, isIv a b = true → ivB a b ≠ s) :
    Calls Try.prog 49 #[.string s] w fun e w' => e = .returned (.tuple #[.agg #[.int .i64 0, .int .i64 0], .int .i64 6]) ∧ Below w.heap.size w w' := by
  have HNO := Lib.hid hno
  clear hno
  go_enter Try.func49, Try.ntmps49
  go_upto_region 1 with fail
  obtain ⟨c0, f0, zz, bb⟩ := kept1 (w := w) (A := #[Value.int .i64 0, Value.int .i64 0]) (ta := 40) (Below.refl _ _)
  generalize w.alloc (.cells #[Value.int .i64 0, Value.int .i64 0] 40) = X at *
  have HC := Lib.hid c0
  have HF := Lib.hid f0
  clear c0 f0
  go_wp2_with fail
  go_loop [4, 5, 6] (fun s4 s5 s6 => s4 = .string s ∧ s5 = .string s ∧ ∃ k : Nat, s6 = .int .i64 k ∧ k ≤ s.size) (fun _ _ s6 => s.size - (intOf s6).toNat)
  case atStart => exact ⟨rfl, rfl, 0, rfl, Nat.zero_le _⟩
  case round =>
    obtain ⟨rfl, rfl, k, rfl, hk⟩ := hrel
    have q1 : IntKind.i64.wrap ((k : Int) + 1) = (k : Int) + 1 := IntWalk.i64_in _ (by omega)
    have q2 : ((k : Int) + 1).toNat = k + 1 := by omega
    have q3 : (0 : Int) ≤ (k : Int) + 1 := by omega
    by_cases h1 : k + 1 < s.size
    · have g1 : decide ((k : Int) + 1 < s.size) = true := decide_eq_true (by omega)
      rcases e1 : (((s[k]'(by omega)).toNat : Int) == 46) with _ | _
      · go_wp2_with fail
        go_round
        case rel => exact ⟨rfl, rfl, k + 1, by simp, by omega⟩
        case measure => (simp [intOf]; omega)
      · rcases e2 : (((s[k + 1]'h1).toNat : Int) == 46) with _ | _
        · go_wp2_with fail
          go_round
          case rel => exact ⟨rfl, rfl, k + 1, by simp, by omega⟩
          case measure => (simp [intOf]; omega)
        · have q4 : IntKind.i64.wrap ((k : Int) + 2) = (k : Int) + 2 := IntWalk.i64_in _ (by omega)
          have q5 : ((k : Int) + 2).toNat = k + 2 := by omega
          have q6 : (0 : Int) ≤ (k : Int) + 2 := by omega
          have q7 : (k : Int) + 2 ≤ s.size := by omega
          have q8 : (k : Int) ≤ s.size := by omega
          go_wp2_with fail
          refine region_aft X (by kernel_rfl) (by kernel_rfl) (Below.refl _ _) ?_
          repeat (go_big_quiet_step (fail))
          refine wpQuiet_nil ?_
          rintro w1 ⟨⟨_, b1⟩, rfl⟩
          replace bb := bb.trans (b1.mono (by omega))
          have hx0 : (s.extract 0 k).size ≤ 1048576 := by first | exact hs | (simp; omega)
          have hy0 : (s.extract (k + 2) s.size).size ≤ 1048576 := by first | exact hs | (simp; omega)
          have HX := Lib.hid (show (s.extract 0 k).size ≤ maxLen from Nat.le_trans hx0 (by unfold maxLen; omega))
          have HY := Lib.hid (show (s.extract (k + 2) s.size).size ≤ maxLen from Nat.le_trans hy0 (by unfold maxLen; omega))
          obtain ⟨a, ha⟩ : ∃ a, rdF (s.extract 0 k) = a := ⟨_, rfl⟩
          obtain ⟨b, hb⟩ : ∃ b, rdF (s.extract (k + 2) s.size) = b := ⟨_, rfl⟩
          obtain ⟨a, o1⟩ := a
          obtain ⟨b, o2⟩ := b
          have HA := Lib.hid ha
          have HB := Lib.hid hb
          clear ha hb
          go_wp2_with fail
          (with_reducible refine (impl_readDecimal _ _ HX.out).mono ?_)
          rintro e w3 ⟨rfl, rfl⟩
          rw [HA.out]
          go_wp2_with fail
          (with_reducible refine (impl_readDecimal _ _ HY.out).mono ?_)
          rintro e w4 ⟨rfl, rfl⟩
          rw [HB.out]
          go_upto_region 10 with fail
          have zb := b1.size
          have c0 := cell_alloc (cell_kept b1 (by omega) HC.out) (by omega) (.cells #[Value.int .i64 a, Value.int .i64 b] 40)
          have f0 := frz_alloc (frz_kept b1 (by omega) HF.out) (by omega) (.cells #[Value.int .i64 a, Value.int .i64 b] 40)
          have c1 := cell_new w1 #[Value.int .i64 a, Value.int .i64 b] 40
          replace bb : Below w.heap.size w (w1.alloc (.cells #[Value.int .i64 a, Value.int .i64 b] 40)) := bb.alloc (by omega) _
          have zc1 := lt_cell c1 (by simp)
          have zc0 := lt_cell c0 (by simp)
          replace zz : w.heap.size + 1 ≤ (w1.alloc (.cells #[Value.int .i64 a, Value.int .i64 b] 40)).heap.size := by omega
          generalize w1.alloc (.cells #[Value.int .i64 a, Value.int .i64 b] 40) = Y at *
          generalize w1.heap.size = g1 at *
          rcases o1 with _ | _
          · go_wp2_with fail
            refine bodyPost_ret (v := .tuple #[.agg #[.int .i64 0, .int .i64 0], .int .i64 6]) (by simp (maxDischargeDepth := 8) [results, Try.results49, go_sem, c0]) rfl ⟨?_, ?_⟩
            · rfl
            · (repeat (first | with_reducible exact Below.refl _ _ | with_reducible assumption | ((with_reducible refine Bw.set ?_ ?_); rotate_left; focus omega) | ((with_reducible refine Bw.al ?_ ?_); rotate_left; focus (first | omega | (simp; done) | (simp; omega))) | with_reducible refine Below.drew ?_ | with_reducible refine Bw.dr ?_ _))
          rcases o2 with _ | _
          · go_wp2_with fail
            refine bodyPost_ret (v := .tuple #[.agg #[.int .i64 0, .int .i64 0], .int .i64 6]) (by simp (maxDischargeDepth := 8) [results, Try.results49, go_sem, c0]) rfl ⟨?_, ?_⟩
            · rfl
            · (repeat (first | with_reducible exact Below.refl _ _ | with_reducible assumption | ((with_reducible refine Bw.set ?_ ?_); rotate_left; focus omega) | ((with_reducible refine Bw.al ?_ ?_); rotate_left; focus (first | omega | (simp; done) | (simp; omega))) | with_reducible refine Below.drew ?_ | with_reducible refine Bw.dr ?_ _))
          have HI := Lib.hid (impl_IsInterval a b)
          rcases k2 : isIv a b with _ | _
          · rw [k2] at HI
            clear k2
            go_wp2_with fail
            refine (HI.out _).mono ?_
            rintro e w5 ⟨rfl, hb5⟩
            replace bb : Below w.heap.size w w5 := Below.trans (by (repeat (first | with_reducible exact Below.refl _ _ | with_reducible assumption | ((with_reducible refine Bw.set ?_ ?_); rotate_left; focus omega) | ((with_reducible refine Bw.al ?_ ?_); rotate_left; focus (first | omega | (simp; done) | (simp; omega))) | with_reducible refine Below.drew ?_ | with_reducible refine Bw.dr ?_ _))) (hb5.mono (by first | omega | (simp; done) | (simp; omega)))
            first | replace c0 := cell_kept hb5 (by first | omega | (simp; done) | (simp; omega)) c0 | replace c0 := cell_kept hb5 (by first | omega | (simp; done) | (simp; omega)) (cell_alloc c0 (by first | omega | (simp; done) | (simp; omega)) _)
            replace zc0 := lt_cell c0 (by simp)
            first | replace f0 := frz_kept hb5 (by first | omega | (simp; done) | (simp; omega)) f0 | replace f0 := frz_kept hb5 (by first | omega | (simp; done) | (simp; omega)) (frz_alloc f0 (by first | omega | (simp; done) | (simp; omega)) _)
            replace zz : w.heap.size + 1 ≤ w5.heap.size := by have := hb5.size; first | omega | (simp at this; omega)
            clear hb5
            go_wp2_with fail
            refine bodyPost_ret (v := .tuple #[.agg #[.int .i64 0, .int .i64 0], .int .i64 6]) (by simp (maxDischargeDepth := 8) [results, Try.results49, go_sem, c0]) rfl ⟨?_, ?_⟩
            · rfl
            · (repeat (first | with_reducible exact Below.refl _ _ | with_reducible assumption | ((with_reducible refine Bw.set ?_ ?_); rotate_left; focus omega) | ((with_reducible refine Bw.al ?_ ?_); rotate_left; focus (first | omega | (simp; done) | (simp; omega))) | with_reducible refine Below.drew ?_ | with_reducible refine Bw.dr ?_ _))
          rw [k2] at HI
          have HK := Lib.hid k2
          have e4 := eq_str (decide_eq_false (HNO.out a b k2))
          clear k2
          go_wp2_with fail
          refine (HI.out _).mono ?_
          rintro e w5 ⟨rfl, hb5⟩
          replace bb : Below w.heap.size w w5 := Below.trans (by (repeat (first | with_reducible exact Below.refl _ _ | with_reducible assumption | ((with_reducible refine Bw.set ?_ ?_); rotate_left; focus omega) | ((with_reducible refine Bw.al ?_ ?_); rotate_left; focus (first | omega | (simp; done) | (simp; omega))) | with_reducible refine Below.drew ?_ | with_reducible refine Bw.dr ?_ _))) (hb5.mono (by first | omega | (simp; done) | (simp; omega)))
          first | replace c0 := cell_kept hb5 (by first | omega | (simp; done) | (simp; omega)) c0 | replace c0 := cell_kept hb5 (by first | omega | (simp; done) | (simp; omega)) (cell_alloc c0 (by first | omega | (simp; done) | (simp; omega)) _)
          replace zc0 := lt_cell c0 (by simp)
          first | replace c1 := cell_kept hb5 (by first | omega | (simp; done) | (simp; omega)) c1 | replace c1 := cell_kept hb5 (by first | omega | (simp; done) | (simp; omega)) (cell_alloc c1 (by first | omega | (simp; done) | (simp; omega)) _)
          replace zc1 := lt_cell c1 (by simp)
          first | replace f0 := frz_kept hb5 (by first | omega | (simp; done) | (simp; omega)) f0 | replace f0 := frz_kept hb5 (by first | omega | (simp; done) | (simp; omega)) (frz_alloc f0 (by first | omega | (simp; done) | (simp; omega)) _)
          replace zz : w.heap.size + 1 ≤ w5.heap.size := by have := hb5.size; first | omega | (simp at this; omega)
          clear hb5
          go_wp2_with fail
          refine (impl_ivText a b _ HK.out).mono ?_
          rintro e w6 ⟨rfl, hb6⟩
          replace bb : Below w.heap.size w w6 := Below.trans (by (repeat (first | with_reducible exact Below.refl _ _ | with_reducible assumption | ((with_reducible refine Bw.set ?_ ?_); rotate_left; focus omega) | ((with_reducible refine Bw.al ?_ ?_); rotate_left; focus (first | omega | (simp; done) | (simp; omega))) | with_reducible refine Below.drew ?_ | with_reducible refine Bw.dr ?_ _))) (hb6.mono (by first | omega | (simp; done) | (simp; omega)))
          first | replace c0 := cell_kept hb6 (by first | omega | (simp; done) | (simp; omega)) c0 | replace c0 := cell_kept hb6 (by first | omega | (simp; done) | (simp; omega)) (cell_alloc c0 (by first | omega | (simp; done) | (simp; omega)) _)
          replace zc0 := lt_cell c0 (by simp)
          first | replace f0 := frz_kept hb6 (by first | omega | (simp; done) | (simp; omega)) f0 | replace f0 := frz_kept hb6 (by first | omega | (simp; done) | (simp; omega)) (frz_alloc f0 (by first | omega | (simp; done) | (simp; omega)) _)
          replace zz : w.heap.size + 1 ≤ w6.heap.size := by have := hb6.size; first | omega | (simp at this; omega)
          clear hb6
          go_wp2_with fail
          refine bodyPost_ret (v := .tuple #[.agg #[.int .i64 0, .int .i64 0], .int .i64 6]) (by simp (maxDischargeDepth := 8) [results, Try.results49, go_sem, c0]) rfl ⟨?_, ?_⟩
          · rfl
          · (repeat (first | with_reducible exact Below.refl _ _ | with_reducible assumption | ((with_reducible refine Bw.set ?_ ?_); rotate_left; focus omega) | ((with_reducible refine Bw.al ?_ ?_); rotate_left; focus (first | omega | (simp; done) | (simp; omega))) | with_reducible refine Below.drew ?_ | with_reducible refine Bw.dr ?_ _))
    · have g1 : decide ((k : Int) + 1 < s.size) = false := decide_eq_false (by omega)
      have hx0 : (s).size ≤ 1048576 := by first | exact hs | (simp; omega)
      have hy0 : (s).size ≤ 1048576 := by first | exact hs | (simp; omega)
      have HX := Lib.hid (show (s).size ≤ maxLen from Nat.le_trans hx0 (by unfold maxLen; omega))
      have HY := Lib.hid (show (s).size ≤ maxLen from Nat.le_trans hy0 (by unfold maxLen; omega))
      obtain ⟨a, ha⟩ : ∃ a, rdF (s) = a := ⟨_, rfl⟩
      obtain ⟨b, hb⟩ : ∃ b, rdF (s) = b := ⟨_, rfl⟩
      obtain ⟨a, o1⟩ := a
      obtain ⟨b, o2⟩ := b
      have HA := Lib.hid ha
      have HB := Lib.hid hb
      clear ha hb
      go_wp2_with fail
      (with_reducible refine (impl_readDecimal _ _ HX.out).mono ?_)
      rintro e w3 ⟨rfl, rfl⟩
      rw [HA.out]
      go_wp2_with fail
      (with_reducible refine (impl_readDecimal _ _ HY.out).mono ?_)
      rintro e w4 ⟨rfl, rfl⟩
      rw [HB.out]
      go_upto_region 10 with fail
      have c0 := cell_alloc HC.out (by omega) (.cells #[Value.int .i64 a, Value.int .i64 b] 40)
      have f0 := frz_alloc HF.out (by omega) (.cells #[Value.int .i64 a, Value.int .i64 b] 40)
      have c1 := cell_new X #[Value.int .i64 a, Value.int .i64 b] 40
      replace bb : Below w.heap.size w (X.alloc (.cells #[Value.int .i64 a, Value.int .i64 b] 40)) := bb.alloc (by omega) _
      have zc1 := lt_cell c1 (by simp)
      have zc0 := lt_cell c0 (by simp)
      replace zz : w.heap.size + 1 ≤ (X.alloc (.cells #[Value.int .i64 a, Value.int .i64 b] 40)).heap.size := by omega
      generalize X.alloc (.cells #[Value.int .i64 a, Value.int .i64 b] 40) = Y at *
      generalize X.heap.size = g1 at *
      rcases o1 with _ | _
      · go_wp2_with fail
        refine bodyPost_ret (v := .tuple #[.agg #[.int .i64 0, .int .i64 0], .int .i64 6]) (by simp (maxDischargeDepth := 8) [results, Try.results49, go_sem, c0]) rfl ⟨?_, ?_⟩
        · rfl
        · (repeat (first | with_reducible exact Below.refl _ _ | with_reducible assumption | ((with_reducible refine Bw.set ?_ ?_); rotate_left; focus omega) | ((with_reducible refine Bw.al ?_ ?_); rotate_left; focus (first | omega | (simp; done) | (simp; omega))) | with_reducible refine Below.drew ?_ | with_reducible refine Bw.dr ?_ _))
      rcases o2 with _ | _
      · go_wp2_with fail
        refine bodyPost_ret (v := .tuple #[.agg #[.int .i64 0, .int .i64 0], .int .i64 6]) (by simp (maxDischargeDepth := 8) [results, Try.results49, go_sem, c0]) rfl ⟨?_, ?_⟩
        · rfl
        · (repeat (first | with_reducible exact Below.refl _ _ | with_reducible assumption | ((with_reducible refine Bw.set ?_ ?_); rotate_left; focus omega) | ((with_reducible refine Bw.al ?_ ?_); rotate_left; focus (first | omega | (simp; done) | (simp; omega))) | with_reducible refine Below.drew ?_ | with_reducible refine Bw.dr ?_ _))
      have HI := Lib.hid (impl_IsInterval a b)
      rcases k2 : isIv a b with _ | _
      · rw [k2] at HI
        clear k2
        go_wp2_with fail
        refine (HI.out _).mono ?_
        rintro e w5 ⟨rfl, hb5⟩
        replace bb : Below w.heap.size w w5 := Below.trans (by (repeat (first | with_reducible exact Below.refl _ _ | with_reducible assumption | ((with_reducible refine Bw.set ?_ ?_); rotate_left; focus omega) | ((with_reducible refine Bw.al ?_ ?_); rotate_left; focus (first | omega | (simp; done) | (simp; omega))) | with_reducible refine Below.drew ?_ | with_reducible refine Bw.dr ?_ _))) (hb5.mono (by first | omega | (simp; done) | (simp; omega)))
        first | replace c0 := cell_kept hb5 (by first | omega | (simp; done) | (simp; omega)) c0 | replace c0 := cell_kept hb5 (by first | omega | (simp; done) | (simp; omega)) (cell_alloc c0 (by first | omega | (simp; done) | (simp; omega)) _)
        replace zc0 := lt_cell c0 (by simp)
        first | replace f0 := frz_kept hb5 (by first | omega | (simp; done) | (simp; omega)) f0 | replace f0 := frz_kept hb5 (by first | omega | (simp; done) | (simp; omega)) (frz_alloc f0 (by first | omega | (simp; done) | (simp; omega)) _)
        replace zz : w.heap.size + 1 ≤ w5.heap.size := by have := hb5.size; first | omega | (simp at this; omega)
        clear hb5
        go_wp2_with fail
        refine bodyPost_ret (v := .tuple #[.agg #[.int .i64 0, .int .i64 0], .int .i64 6]) (by simp (maxDischargeDepth := 8) [results, Try.results49, go_sem, c0]) rfl ⟨?_, ?_⟩
        · rfl
        · (repeat (first | with_reducible exact Below.refl _ _ | with_reducible assumption | ((with_reducible refine Bw.set ?_ ?_); rotate_left; focus omega) | ((with_reducible refine Bw.al ?_ ?_); rotate_left; focus (first | omega | (simp; done) | (simp; omega))) | with_reducible refine Below.drew ?_ | with_reducible refine Bw.dr ?_ _))
      rw [k2] at HI
      have HK := Lib.hid k2
      have e4 := eq_str (decide_eq_false (HNO.out a b k2))
      clear k2
      go_wp2_with fail
      refine (HI.out _).mono ?_
      rintro e w5 ⟨rfl, hb5⟩
      replace bb : Below w.heap.size w w5 := Below.trans (by (repeat (first | with_reducible exact Below.refl _ _ | with_reducible assumption | ((with_reducible refine Bw.set ?_ ?_); rotate_left; focus omega) | ((with_reducible refine Bw.al ?_ ?_); rotate_left; focus (first | omega | (simp; done) | (simp; omega))) | with_reducible refine Below.drew ?_ | with_reducible refine Bw.dr ?_ _))) (hb5.mono (by first | omega | (simp; done) | (simp; omega)))
      first | replace c0 := cell_kept hb5 (by first | omega | (simp; done) | (simp; omega)) c0 | replace c0 := cell_kept hb5 (by first | omega | (simp; done) | (simp; omega)) (cell_alloc c0 (by first | omega | (simp; done) | (simp; omega)) _)
      replace zc0 := lt_cell c0 (by simp)
      first | replace c1 := cell_kept hb5 (by first | omega | (simp; done) | (simp; omega)) c1 | replace c1 := cell_kept hb5 (by first | omega | (simp; done) | (simp; omega)) (cell_alloc c1 (by first | omega | (simp; done) | (simp; omega)) _)
      replace zc1 := lt_cell c1 (by simp)
      first | replace f0 := frz_kept hb5 (by first | omega | (simp; done) | (simp; omega)) f0 | replace f0 := frz_kept hb5 (by first | omega | (simp; done) | (simp; omega)) (frz_alloc f0 (by first | omega | (simp; done) | (simp; omega)) _)
      replace zz : w.heap.size + 1 ≤ w5.heap.size := by have := hb5.size; first | omega | (simp at this; omega)
      clear hb5
      go_wp2_with fail
      refine (impl_ivText a b _ HK.out).mono ?_
      rintro e w6 ⟨rfl, hb6⟩
      replace bb : Below w.heap.size w w6 := Below.trans (by (repeat (first | with_reducible exact Below.refl _ _ | with_reducible assumption | ((with_reducible refine Bw.set ?_ ?_); rotate_left; focus omega) | ((with_reducible refine Bw.al ?_ ?_); rotate_left; focus (first | omega | (simp; done) | (simp; omega))) | with_reducible refine Below.drew ?_ | with_reducible refine Bw.dr ?_ _))) (hb6.mono (by first | omega | (simp; done) | (simp; omega)))
      first | replace c0 := cell_kept hb6 (by first | omega | (simp; done) | (simp; omega)) c0 | replace c0 := cell_kept hb6 (by first | omega | (simp; done) | (simp; omega)) (cell_alloc c0 (by first | omega | (simp; done) | (simp; omega)) _)
      replace zc0 := lt_cell c0 (by simp)
      first | replace f0 := frz_kept hb6 (by first | omega | (simp; done) | (simp; omega)) f0 | replace f0 := frz_kept hb6 (by first | omega | (simp; done) | (simp; omega)) (frz_alloc f0 (by first | omega | (simp; done) | (simp; omega)) _)
      replace zz : w.heap.size + 1 ≤ w6.heap.size := by have := hb6.size; first | omega | (simp at this; omega)
      clear hb6
      go_wp2_with fail
      refine bodyPost_ret (v := .tuple #[.agg #[.int .i64 0, .int .i64 0], .int .i64 6]) (by simp (maxDischargeDepth := 8) [results, Try.results49, go_sem, c0]) rfl ⟨?_, ?_⟩
      · rfl
      · (repeat (first | with_reducible exact Below.refl _ _ | with_reducible assumption | ((with_reducible refine Bw.set ?_ ?_); rotate_left; focus omega) | ((with_reducible refine Bw.al ?_ ?_); rotate_left; focus (first | omega | (simp; done) | (simp; omega))) | with_reducible refine Below.drew ?_ | with_reducible refine Bw.dr ?_ _))
set_option maxHeartbeats 4000000 in
theorem impl_ReadInterval_y (s : ByteArray) (a b : Int) (w : World) (hk : isIv a b = true) (hm : ivB a b = s) :
    Calls Try.prog 49 #[.string s] w fun e w' => e = .returned (.tuple #[.agg #[.int .i64 a, .int .i64 b], .int .i64 0]) ∧ Below w.heap.size w w' := by
  have hz := ivB_size hk
  rw [hm] at hz
  have hs : s.size ≤ 1048576 := by omega
  obtain ⟨k1, k2, k3⟩ := isIv_t hk
  have HK := Lib.hid hk
  have HI := Lib.hid (impl_IsInterval a b)
  rw [hk] at HI
  have e4 := eq_str (decide_eq_true hm)
  have s1 := numB_size (n := a) (by omega)
  have s2 := numB_size (n := b) (by omega)
  have HA := Lib.hid (rdF_num (n := a) (inB_mk (by omega)))
  have HB := Lib.hid (rdF_num (n := b) (inB_mk (by omega)))
  have HX := Lib.hid (show (numB a).size ≤ maxLen from Nat.le_trans s1 (by unfold maxLen; omega))
  have HY := Lib.hid (show (numB b).size ≤ maxLen from Nat.le_trans s2 (by unfold maxLen; omega))
  by_cases hab : a = b
  · subst hab
    rw [ivB_same] at hm
    have hn : ∀ k, k < s.size → bAt s k ≠ 46 := by rw [← hm]; exact numB_nodot (by decide) (by decide)
    have HN := Lib.hid hn
    have HM := Lib.hid hm
    clear hm hn hk
    go_enter Try.func49, Try.ntmps49
    go_upto_region 1 with fail
    obtain ⟨c0, f0, zz, bb⟩ := kept1 (w := w) (A := #[Value.int .i64 0, Value.int .i64 0]) (ta := 40) (Below.refl _ _)
    generalize w.alloc (.cells #[Value.int .i64 0, Value.int .i64 0] 40) = X at *
    have HC := Lib.hid c0
    have HF := Lib.hid f0
    clear c0 f0
    go_wp2_with fail
    go_loop [4, 5, 6] (fun s4 s5 s6 => s4 = .string s ∧ s5 = .string s ∧ ∃ k : Nat, s6 = .int .i64 k ∧ k ≤ s.size) (fun _ _ s6 => s.size - (intOf s6).toNat)
    case atStart => exact ⟨rfl, rfl, 0, rfl, Nat.zero_le _⟩
    case round =>
      obtain ⟨rfl, rfl, k, rfl, hk⟩ := hrel
      have q1 : IntKind.i64.wrap ((k : Int) + 1) = (k : Int) + 1 := IntWalk.i64_in _ (by omega)
      have q2 : ((k : Int) + 1).toNat = k + 1 := by omega
      have q3 : (0 : Int) ≤ (k : Int) + 1 := by omega
      by_cases h1 : k + 1 < s.size
      · have g1 : decide ((k : Int) + 1 < s.size) = true := decide_eq_true (by omega)
        have e1 : (((s[k]'(by omega)).toNat : Int) == 46) = false := by
          rw [bAt_get (by omega)]
          have := HN.out k (by omega)
          simp [this]
        go_wp2_with fail
        go_round
        case rel => exact ⟨rfl, rfl, k + 1, by simp, by omega⟩
        case measure => (simp [intOf]; omega)
      · have g1 : decide ((k : Int) + 1 < s.size) = false := decide_eq_false (by omega)
        rw [HM.out] at HX HY HA HB
        go_wp2_with fail
        (with_reducible refine (impl_readDecimal _ _ HX.out).mono ?_)
        rintro e w3 ⟨rfl, rfl⟩
        rw [HA.out]
        go_wp2_with fail
        (with_reducible refine (impl_readDecimal _ _ HY.out).mono ?_)
        rintro e w4 ⟨rfl, rfl⟩
        rw [HB.out]
        go_upto_region 10 with fail
        have c0 := cell_alloc HC.out (by omega) (.cells #[Value.int .i64 a, Value.int .i64 a] 40)
        have f0 := frz_alloc HF.out (by omega) (.cells #[Value.int .i64 a, Value.int .i64 a] 40)
        have c1 := cell_new X #[Value.int .i64 a, Value.int .i64 a] 40
        replace bb : Below w.heap.size w (X.alloc (.cells #[Value.int .i64 a, Value.int .i64 a] 40)) := bb.alloc (by omega) _
        have zc1 := lt_cell c1 (by simp)
        have zc0 := lt_cell c0 (by simp)
        replace zz : w.heap.size + 1 ≤ (X.alloc (.cells #[Value.int .i64 a, Value.int .i64 a] 40)).heap.size := by omega
        generalize X.alloc (.cells #[Value.int .i64 a, Value.int .i64 a] 40) = Y at *
        generalize X.heap.size = g1 at *
        go_wp2_with fail
        refine (HI.out _).mono ?_
        rintro e w5 ⟨rfl, hb5⟩
        replace bb : Below w.heap.size w w5 := Below.trans (by (repeat (first | with_reducible exact Below.refl _ _ | with_reducible assumption | ((with_reducible refine Bw.set ?_ ?_); rotate_left; focus omega) | ((with_reducible refine Bw.al ?_ ?_); rotate_left; focus (first | omega | (simp; done) | (simp; omega))) | with_reducible refine Below.drew ?_ | with_reducible refine Bw.dr ?_ _))) (hb5.mono (by first | omega | (simp; done) | (simp; omega)))
        first | replace c0 := cell_kept hb5 (by first | omega | (simp; done) | (simp; omega)) c0 | replace c0 := cell_kept hb5 (by first | omega | (simp; done) | (simp; omega)) (cell_alloc c0 (by first | omega | (simp; done) | (simp; omega)) _)
        replace zc0 := lt_cell c0 (by simp)
        first | replace c1 := cell_kept hb5 (by first | omega | (simp; done) | (simp; omega)) c1 | replace c1 := cell_kept hb5 (by first | omega | (simp; done) | (simp; omega)) (cell_alloc c1 (by first | omega | (simp; done) | (simp; omega)) _)
        replace zc1 := lt_cell c1 (by simp)
        first | replace f0 := frz_kept hb5 (by first | omega | (simp; done) | (simp; omega)) f0 | replace f0 := frz_kept hb5 (by first | omega | (simp; done) | (simp; omega)) (frz_alloc f0 (by first | omega | (simp; done) | (simp; omega)) _)
        replace zz : w.heap.size + 1 ≤ w5.heap.size := by have := hb5.size; first | omega | (simp at this; omega)
        clear hb5
        go_wp2_with fail
        refine (impl_ivText a a _ HK.out).mono ?_
        rintro e w6 ⟨rfl, hb6⟩
        replace bb : Below w.heap.size w w6 := Below.trans (by (repeat (first | with_reducible exact Below.refl _ _ | with_reducible assumption | ((with_reducible refine Bw.set ?_ ?_); rotate_left; focus omega) | ((with_reducible refine Bw.al ?_ ?_); rotate_left; focus (first | omega | (simp; done) | (simp; omega))) | with_reducible refine Below.drew ?_ | with_reducible refine Bw.dr ?_ _))) (hb6.mono (by first | omega | (simp; done) | (simp; omega)))
        first | replace c0 := cell_kept hb6 (by first | omega | (simp; done) | (simp; omega)) c0 | replace c0 := cell_kept hb6 (by first | omega | (simp; done) | (simp; omega)) (cell_alloc c0 (by first | omega | (simp; done) | (simp; omega)) _)
        replace zc0 := lt_cell c0 (by simp)
        first | replace c1 := cell_kept hb6 (by first | omega | (simp; done) | (simp; omega)) c1 | replace c1 := cell_kept hb6 (by first | omega | (simp; done) | (simp; omega)) (cell_alloc c1 (by first | omega | (simp; done) | (simp; omega)) _)
        replace zc1 := lt_cell c1 (by simp)
        first | replace f0 := frz_kept hb6 (by first | omega | (simp; done) | (simp; omega)) f0 | replace f0 := frz_kept hb6 (by first | omega | (simp; done) | (simp; omega)) (frz_alloc f0 (by first | omega | (simp; done) | (simp; omega)) _)
        replace zz : w.heap.size + 1 ≤ w6.heap.size := by have := hb6.size; first | omega | (simp at this; omega)
        clear hb6
        go_wp2_with fail
        refine bodyPost_ret (v := .tuple #[.agg #[.int .i64 a, .int .i64 a], .int .i64 0]) (by simp (maxDischargeDepth := 8) [results, Try.results49, go_sem, c0, c1]) rfl ⟨?_, ?_⟩
        · rfl
        · (repeat (first | with_reducible exact Below.refl _ _ | with_reducible assumption | ((with_reducible refine Bw.set ?_ ?_); rotate_left; focus omega) | ((with_reducible refine Bw.al ?_ ?_); rotate_left; focus (first | omega | (simp; done) | (simp; omega))) | with_reducible refine Below.drew ?_ | with_reducible refine Bw.dr ?_ _))
  · have hc := iv_cut (x := numB a) (y := numB b) (numB_nodot (by decide) (by decide)) (numB_nodot (by decide) (by decide))
    rw [← ivB_diff hab, hm] at hc
    obtain ⟨a1, a2, a3, a4, a5, a6, _⟩ := hc
    obtain ⟨n, hn⟩ : ∃ n, (numB a).size = n := ⟨_, rfl⟩
    rw [hn] at a1 a2 a3 a4 a5 a6
    have A1 := Lib.hid a1
    have A2 := Lib.hid a2
    have A3 := Lib.hid a3
    have HE1 := Lib.hid a5
    have HE2 := Lib.hid (show s.extract (n + 2) s.size = numB b by rw [a4]; exact a6)
    have hsn : n + 1 < s.size := by omega
    clear hm hk hab a1 a2 a3 a4 a5 a6 hn
    go_enter Try.func49, Try.ntmps49
    go_upto_region 1 with fail
    obtain ⟨c0, f0, zz, bb⟩ := kept1 (w := w) (A := #[Value.int .i64 0, Value.int .i64 0]) (ta := 40) (Below.refl _ _)
    generalize w.alloc (.cells #[Value.int .i64 0, Value.int .i64 0] 40) = X at *
    have HC := Lib.hid c0
    have HF := Lib.hid f0
    clear c0 f0
    go_wp2_with fail
    go_loop [4, 5, 6] (fun s4 s5 s6 => s4 = .string s ∧ s5 = .string s ∧ ∃ k : Nat, s6 = .int .i64 k ∧ k ≤ n) (fun _ _ s6 => s.size - (intOf s6).toNat)
    case atStart => exact ⟨rfl, rfl, 0, rfl, Nat.zero_le _⟩
    case round =>
      obtain ⟨rfl, rfl, k, rfl, hk⟩ := hrel
      have q1 : IntKind.i64.wrap ((k : Int) + 1) = (k : Int) + 1 := IntWalk.i64_in _ (by omega)
      have q2 : ((k : Int) + 1).toNat = k + 1 := by omega
      have q3 : (0 : Int) ≤ (k : Int) + 1 := by omega
      have h1 : k + 1 < s.size := by omega
      have g1 : decide ((k : Int) + 1 < s.size) = true := decide_eq_true (by omega)
      by_cases hkn : k < n
      · have e1 : (((s[k]'(by omega)).toNat : Int) == 46) = false := by
          rw [bAt_get (by omega)]
          have := A1.out k hkn
          simp [this]
        go_wp2_with fail
        go_round
        case rel => exact ⟨rfl, rfl, k + 1, by simp, by omega⟩
        case measure => (simp [intOf]; omega)
      · have hkk : k = n := by omega
        subst hkk
        have e1 : (((s[k]'(by omega)).toNat : Int) == 46) = true := by
          rw [bAt_get (by omega), A2.out]; rfl
        have e2 : (((s[k + 1]'h1).toNat : Int) == 46) = true := by
          rw [bAt_get (by omega), A3.out]; rfl
        have q4 : IntKind.i64.wrap ((k : Int) + 2) = (k : Int) + 2 := IntWalk.i64_in _ (by omega)
        have q5 : ((k : Int) + 2).toNat = k + 2 := by omega
        have q6 : (0 : Int) ≤ (k : Int) + 2 := by omega
        have q7 : (k : Int) + 2 ≤ s.size := by omega
        have q8 : (k : Int) ≤ s.size := by omega
        go_wp2_with fail
        refine region_aft X (by kernel_rfl) (by kernel_rfl) (Below.refl _ _) ?_
        repeat (go_big_quiet_step (fail))
        refine wpQuiet_nil ?_
        rintro w1 ⟨⟨_, b1⟩, rfl⟩
        replace bb := bb.trans (b1.mono (by omega))
        rw [HE1.out, HE2.out]
        go_wp2_with fail
        (with_reducible refine (impl_readDecimal _ _ HX.out).mono ?_)
        rintro e w3 ⟨rfl, rfl⟩
        rw [HA.out]
        go_wp2_with fail
        (with_reducible refine (impl_readDecimal _ _ HY.out).mono ?_)
        rintro e w4 ⟨rfl, rfl⟩
        rw [HB.out]
        go_upto_region 10 with fail
        have zb := b1.size
        have c0 := cell_alloc (cell_kept b1 (by omega) HC.out) (by omega) (.cells #[Value.int .i64 a, Value.int .i64 b] 40)
        have f0 := frz_alloc (frz_kept b1 (by omega) HF.out) (by omega) (.cells #[Value.int .i64 a, Value.int .i64 b] 40)
        have c1 := cell_new w1 #[Value.int .i64 a, Value.int .i64 b] 40
        replace bb : Below w.heap.size w (w1.alloc (.cells #[Value.int .i64 a, Value.int .i64 b] 40)) := bb.alloc (by omega) _
        have zc1 := lt_cell c1 (by simp)
        have zc0 := lt_cell c0 (by simp)
        replace zz : w.heap.size + 1 ≤ (w1.alloc (.cells #[Value.int .i64 a, Value.int .i64 b] 40)).heap.size := by omega
        generalize w1.alloc (.cells #[Value.int .i64 a, Value.int .i64 b] 40) = Y at *
        generalize w1.heap.size = g1 at *
        go_wp2_with fail
        refine (HI.out _).mono ?_
        rintro e w5 ⟨rfl, hb5⟩
        replace bb : Below w.heap.size w w5 := Below.trans (by (repeat (first | with_reducible exact Below.refl _ _ | with_reducible assumption | ((with_reducible refine Bw.set ?_ ?_); rotate_left; focus omega) | ((with_reducible refine Bw.al ?_ ?_); rotate_left; focus (first | omega | (simp; done) | (simp; omega))) | with_reducible refine Below.drew ?_ | with_reducible refine Bw.dr ?_ _))) (hb5.mono (by first | omega | (simp; done) | (simp; omega)))
        first | replace c0 := cell_kept hb5 (by first | omega | (simp; done) | (simp; omega)) c0 | replace c0 := cell_kept hb5 (by first | omega | (simp; done) | (simp; omega)) (cell_alloc c0 (by first | omega | (simp; done) | (simp; omega)) _)
        replace zc0 := lt_cell c0 (by simp)
        first | replace c1 := cell_kept hb5 (by first | omega | (simp; done) | (simp; omega)) c1 | replace c1 := cell_kept hb5 (by first | omega | (simp; done) | (simp; omega)) (cell_alloc c1 (by first | omega | (simp; done) | (simp; omega)) _)
        replace zc1 := lt_cell c1 (by simp)
        first | replace f0 := frz_kept hb5 (by first | omega | (simp; done) | (simp; omega)) f0 | replace f0 := frz_kept hb5 (by first | omega | (simp; done) | (simp; omega)) (frz_alloc f0 (by first | omega | (simp; done) | (simp; omega)) _)
        replace zz : w.heap.size + 1 ≤ w5.heap.size := by have := hb5.size; first | omega | (simp at this; omega)
        clear hb5
        go_wp2_with fail
        refine (impl_ivText a b _ HK.out).mono ?_
        rintro e w6 ⟨rfl, hb6⟩
        replace bb : Below w.heap.size w w6 := Below.trans (by (repeat (first | with_reducible exact Below.refl _ _ | with_reducible assumption | ((with_reducible refine Bw.set ?_ ?_); rotate_left; focus omega) | ((with_reducible refine Bw.al ?_ ?_); rotate_left; focus (first | omega | (simp; done) | (simp; omega))) | with_reducible refine Below.drew ?_ | with_reducible refine Bw.dr ?_ _))) (hb6.mono (by first | omega | (simp; done) | (simp; omega)))
        first | replace c0 := cell_kept hb6 (by first | omega | (simp; done) | (simp; omega)) c0 | replace c0 := cell_kept hb6 (by first | omega | (simp; done) | (simp; omega)) (cell_alloc c0 (by first | omega | (simp; done) | (simp; omega)) _)
        replace zc0 := lt_cell c0 (by simp)
        first | replace c1 := cell_kept hb6 (by first | omega | (simp; done) | (simp; omega)) c1 | replace c1 := cell_kept hb6 (by first | omega | (simp; done) | (simp; omega)) (cell_alloc c1 (by first | omega | (simp; done) | (simp; omega)) _)
        replace zc1 := lt_cell c1 (by simp)
        first | replace f0 := frz_kept hb6 (by first | omega | (simp; done) | (simp; omega)) f0 | replace f0 := frz_kept hb6 (by first | omega | (simp; done) | (simp; omega)) (frz_alloc f0 (by first | omega | (simp; done) | (simp; omega)) _)
        replace zz : w.heap.size + 1 ≤ w6.heap.size := by have := hb6.size; first | omega | (simp at this; omega)
        clear hb6
        go_wp2_with fail
        refine bodyPost_ret (v := .tuple #[.agg #[.int .i64 a, .int .i64 b], .int .i64 0]) (by simp (maxDischargeDepth := 8) [results, Try.results49, go_sem, c0, c1]) rfl ⟨?_, ?_⟩
        · rfl
        · (repeat (first | with_reducible exact Below.refl _ _ | with_reducible assumption | ((with_reducible refine Bw.set ?_ ?_); rotate_left; focus omega) | ((with_reducible refine Bw.al ?_ ?_); rotate_left; focus (first | omega | (simp; done) | (simp; omega))) | with_reducible refine Below.drew ?_ | with_reducible refine Bw.dr ?_ _))
theorem len_eq {n : Nat} {k : Int} {b : Bool} (m : Nat) (hk : (m : Int) = k) (h : decide (n = m) = b) : ((n : Int) == k) = b := by
  rw [← h, ← hk, Bool.eq_iff_iff]
  simp
  omega
set_option maxHeartbeats 4000000 in
theorem spec_ReadInterval_n (s : ByteArray) (w : World) (hs : s.size ≤ 1048576) (hno : ∀ a b, isIv a b = true → ivB a b ≠ s) :
    Calls Try.prog 48 #[.string s] w fun e w' => e = .returned (.tuple #[.agg #[.int .i64 0, .int .i64 0], .int .i64 6]) ∧ Below w.heap.size w w' := by
  have HNO := Lib.hid hno
  clear hno
  go_enter Try.func48, Try.ntmps48
  go_upto_region 1 with fail
  obtain ⟨c0, f0, zz, bb⟩ := kept1 (w := w) (A := #[Value.int .i64 0, Value.int .i64 0]) (ta := 40) (Below.refl _ _)
  generalize w.alloc (.cells #[Value.int .i64 0, Value.int .i64 0] 40) = X at *
  go_wp2_with fail
  (with_reducible refine (spec_Split s 46 _ hs (by omega)).mono ?_)
  rintro e w1 ⟨v1, rfl, hown, hb1⟩
  obtain ⟨A1, cc, rfl, hr1⟩ := own_read hown
  clear hown
  replace c0 := cell_kept hb1 (by omega) c0
  replace f0 := frz_kept hb1 (by omega) f0
  replace bb := bb.trans (hb1.mono (by omega))
  replace zz : w.heap.size + 1 ≤ w1.heap.size := by have := hb1.size; omega
  clear hb1
  have hl := (splitB_len s 46).1
  have HSM := Lib.hid (splitB_small s 46)
  generalize splitB s 46 = ps at *
  obtain ⟨p0, hp0⟩ : ∃ p0, sAt ps 0 = p0 := ⟨_, rfl⟩
  obtain ⟨p1, hp1⟩ : ∃ p1, sAt ps 1 = p1 := ⟨_, rfl⟩
  obtain ⟨p2, hp2⟩ : ∃ p2, sAt ps 2 = p2 := ⟨_, rfl⟩
  have HP0 := Lib.hid hp0
  have HP1 := Lib.hid hp1
  have HP2 := Lib.hid hp2
  have HZ0 := Lib.hid (show p0.size ≤ maxLen by rw [← hp0]; exact Nat.le_trans (HSM.out 0) (by unfold maxLen; omega))
  have HZ2 := Lib.hid (show p2.size ≤ maxLen by rw [← hp2]; exact Nat.le_trans (HSM.out 2) (by unfold maxLen; omega))
  obtain ⟨x, hx⟩ : ∃ x, sgF p0 = x := ⟨_, rfl⟩
  obtain ⟨y, hy⟩ : ∃ y, sgF p2 = y := ⟨_, rfl⟩
  obtain ⟨x, o1⟩ := x
  obtain ⟨y, o2⟩ := y
  have HS0 := Lib.hid hx
  have HS2 := Lib.hid hy
  clear hp0 hp1 hp2 hx hy
  have HR := Lib.hid hr1
  obtain ⟨ad, rfl, ha0⟩ := hr1.str (k := 0) (by omega)
  rw [HP0.out] at ha0
  have ha0' : w1.cell? ad = some (.string p0) := by simpa [Addr.add] using ha0
  go_wp2_with fail
  (with_reducible refine (spec_Signed p0 _ HZ0.out).mono ?_)
  rintro e w2 ⟨rfl, hb2⟩
  rw [HS0.out]
  replace c0 := cell_kept hb2 (by omega) c0
  replace f0 := frz_kept hb2 (by omega) f0
  replace bb := bb.trans (hb2.mono (by omega))
  replace zz : w.heap.size + 1 ≤ w2.heap.size := by have := hb2.size; omega
  have zw := hb2.size
  have HB := Lib.hid hb2
  clear hb2 ha0 ha0' hr1
  go_upto_region 4 with fail
  have zg : w.heap.size < w2.heap.size := by omega
  have c1 := cell_new w2 #[Value.int .i64 x, Value.int .i64 x] 40
  have f1 := frz_new w2 #[Value.int .i64 x, Value.int .i64 x] 40
  replace c0 := cell_alloc c0 (by omega) (.cells #[Value.int .i64 x, Value.int .i64 x] 40)
  replace f0 := frz_alloc f0 (by omega) (.cells #[Value.int .i64 x, Value.int .i64 x] 40)
  replace bb : Below w.heap.size w (w2.alloc (.cells #[Value.int .i64 x, Value.int .i64 x] 40)) := bb.alloc (by omega) _
  replace HB := Lib.hid (HB.out.alloc zw (.cells #[Value.int .i64 x, Value.int .i64 x] 40))
  have zc1 := lt_cell c1 (by simp)
  replace zz : w.heap.size + 1 ≤ (w2.alloc (.cells #[Value.int .i64 x, Value.int .i64 x] 40)).heap.size := by omega
  generalize w2.alloc (.cells #[Value.int .i64 x, Value.int .i64 x] 40) = Y at *
  generalize w2.heap.size = g1 at *
  by_cases h3 : ps.length = 3
  · have e3 := len_eq (n := ps.length) (k := 3) 3 rfl (decide_eq_true h3)
    obtain ⟨_, ho2, ha2⟩ := (HR.out.keep HB.out).str (k := 2) (by omega)
    obtain rfl := Option.some.inj ho2
    rw [HP2.out] at ha2
    have ha2' : Y.cell? ⟨ad.block, ad.off + 2, none⟩ = some (.string p2) := by simpa [Addr.add] using ha2
    go_wp2_with fail
    (with_reducible refine (spec_Signed p2 _ HZ2.out).mono ?_)
    rintro e w3 ⟨rfl, hb3⟩
    rw [HS2.out]
    replace c0 := cell_kept hb3 (by omega) c0
    replace f0 := frz_kept hb3 (by omega) f0
    replace c1 := cell_kept hb3 (by omega) c1
    replace f1 := frz_kept hb3 (by omega) f1
    replace bb := bb.trans (hb3.mono (by omega))
    replace zz : w.heap.size + 1 ≤ w3.heap.size := by have := hb3.size; omega
    replace zc1 : g1 < w3.heap.size := by have := hb3.size; omega
    replace HB := Lib.hid (HB.out.trans (hb3.mono HB.out.size))
    clear hb3 ha2 ha2'
    obtain ⟨_, ho1, ha1⟩ := (HR.out.keep HB.out).str (k := 1) (by omega)
    obtain rfl := Option.some.inj ho1
    rw [HP1.out] at ha1
    have ha1' : w3.cell? ⟨ad.block, ad.off + 1, none⟩ = some (.string p1) := by simpa [Addr.add] using ha1
    rcases o1 with _ | _
    · go_wp2_with fail
      go_upto_region 8 with fail
      replace c0 := cell_far c0 (show g1 ≠ w.heap.size by omega) 1 (Value.int .i64 y)
      replace f0 := frz_put (g' := g1) f0 1 (Value.int .i64 y)
      have c1' : ∀ i, (w3.setCell ⟨g1, 1, none⟩ (Value.int .i64 y)).cell? ⟨g1, i, none⟩ = #[Value.int .i64 x, Value.int .i64 y][i]? := cell_put c1 1 _ (by simp)
      replace c1 := c1'
      clear c1'
      replace bb : Below w.heap.size w (w3.setCell ⟨g1, 1, none⟩ (Value.int .i64 y)) := bb.setCell (show w.heap.size ≤ g1 by omega) _
      replace zz : w.heap.size + 1 ≤ (w3.setCell ⟨g1, 1, none⟩ (Value.int .i64 y)).heap.size := by simp only [World.size_setCell]; exact zz
      replace zc1 := lt_cell c1 (by simp)
      generalize w3.setCell ⟨g1, 1, none⟩ (Value.int .i64 y) = Z at *
      go_wp2_with fail
      refine bodyPost_ret (v := .tuple #[.agg #[.int .i64 0, .int .i64 0], .int .i64 6]) (by simp (maxDischargeDepth := 8) [results, Try.results48, go_sem, c0]) rfl ⟨?_, ?_⟩
      · rfl
      · (repeat (first | with_reducible exact Below.refl _ _ | with_reducible assumption | ((with_reducible refine Bw.set ?_ ?_); rotate_left; focus omega) | ((with_reducible refine Bw.al ?_ ?_); rotate_left; focus (first | omega | (simp; done) | (simp; omega))) | with_reducible refine Below.drew ?_ | with_reducible refine Bw.dr ?_ _))
    rcases o2 with _ | _
    · go_wp2_with fail
      go_upto_region 8 with fail
      replace c0 := cell_far c0 (show g1 ≠ w.heap.size by omega) 1 (Value.int .i64 y)
      replace f0 := frz_put (g' := g1) f0 1 (Value.int .i64 y)
      have c1' : ∀ i, (w3.setCell ⟨g1, 1, none⟩ (Value.int .i64 y)).cell? ⟨g1, i, none⟩ = #[Value.int .i64 x, Value.int .i64 y][i]? := cell_put c1 1 _ (by simp)
      replace c1 := c1'
      clear c1'
      replace bb : Below w.heap.size w (w3.setCell ⟨g1, 1, none⟩ (Value.int .i64 y)) := bb.setCell (show w.heap.size ≤ g1 by omega) _
      replace zz : w.heap.size + 1 ≤ (w3.setCell ⟨g1, 1, none⟩ (Value.int .i64 y)).heap.size := by simp only [World.size_setCell]; exact zz
      replace zc1 := lt_cell c1 (by simp)
      generalize w3.setCell ⟨g1, 1, none⟩ (Value.int .i64 y) = Z at *
      go_wp2_with fail
      refine bodyPost_ret (v := .tuple #[.agg #[.int .i64 0, .int .i64 0], .int .i64 6]) (by simp (maxDischargeDepth := 8) [results, Try.results48, go_sem, c0]) rfl ⟨?_, ?_⟩
      · rfl
      · (repeat (first | with_reducible exact Below.refl _ _ | with_reducible assumption | ((with_reducible refine Bw.set ?_ ?_); rotate_left; focus omega) | ((with_reducible refine Bw.al ?_ ?_); rotate_left; focus (first | omega | (simp; done) | (simp; omega))) | with_reducible refine Below.drew ?_ | with_reducible refine Bw.dr ?_ _))
    rcases e1 : p1.toList.isEmpty with _ | _
    · have e1' : ¬ p1.toList = [] := by
        intro h
        rw [h] at e1
        cases e1
      go_upto_region 8 with fail
      replace c0 := cell_far c0 (show g1 ≠ w.heap.size by omega) 1 (Value.int .i64 y)
      replace f0 := frz_put (g' := g1) f0 1 (Value.int .i64 y)
      have c1' : ∀ i, (w3.setCell ⟨g1, 1, none⟩ (Value.int .i64 y)).cell? ⟨g1, i, none⟩ = #[Value.int .i64 x, Value.int .i64 y][i]? := cell_put c1 1 _ (by simp)
      replace c1 := c1'
      clear c1'
      replace bb : Below w.heap.size w (w3.setCell ⟨g1, 1, none⟩ (Value.int .i64 y)) := bb.setCell (show w.heap.size ≤ g1 by omega) _
      replace zz : w.heap.size + 1 ≤ (w3.setCell ⟨g1, 1, none⟩ (Value.int .i64 y)).heap.size := by simp only [World.size_setCell]; exact zz
      replace zc1 := lt_cell c1 (by simp)
      generalize w3.setCell ⟨g1, 1, none⟩ (Value.int .i64 y) = Z at *
      go_wp2_with fail
      refine bodyPost_ret (v := .tuple #[.agg #[.int .i64 0, .int .i64 0], .int .i64 6]) (by simp (maxDischargeDepth := 8) [results, Try.results48, go_sem, c0]) rfl ⟨?_, ?_⟩
      · rfl
      · (repeat (first | with_reducible exact Below.refl _ _ | with_reducible assumption | ((with_reducible refine Bw.set ?_ ?_); rotate_left; focus omega) | ((with_reducible refine Bw.al ?_ ?_); rotate_left; focus (first | omega | (simp; done) | (simp; omega))) | with_reducible refine Below.drew ?_ | with_reducible refine Bw.dr ?_ _))
    have e1' : p1.toList = [] := List.isEmpty_iff.1 e1
    go_upto_region 8 with fail
    replace c0 := cell_far c0 (show g1 ≠ w.heap.size by omega) 1 (Value.int .i64 y)
    replace f0 := frz_put (g' := g1) f0 1 (Value.int .i64 y)
    have c1' : ∀ i, (w3.setCell ⟨g1, 1, none⟩ (Value.int .i64 y)).cell? ⟨g1, i, none⟩ = #[Value.int .i64 x, Value.int .i64 y][i]? := cell_put c1 1 _ (by simp)
    replace c1 := c1'
    clear c1'
    replace bb : Below w.heap.size w (w3.setCell ⟨g1, 1, none⟩ (Value.int .i64 y)) := bb.setCell (show w.heap.size ≤ g1 by omega) _
    replace zz : w.heap.size + 1 ≤ (w3.setCell ⟨g1, 1, none⟩ (Value.int .i64 y)).heap.size := by simp only [World.size_setCell]; exact zz
    replace zc1 := lt_cell c1 (by simp)
    generalize w3.setCell ⟨g1, 1, none⟩ (Value.int .i64 y) = Z at *
    have HI := Lib.hid (spec_IsInterval x y)
    rcases k2 : isIv x y with _ | _
    · rw [k2] at HI
      clear k2
      go_wp2_with fail
      refine (HI.out _).mono ?_
      rintro e w5 ⟨rfl, hb5⟩
      replace bb : Below w.heap.size w w5 := Below.trans (by (repeat (first | with_reducible exact Below.refl _ _ | with_reducible assumption | ((with_reducible refine Bw.set ?_ ?_); rotate_left; focus omega) | ((with_reducible refine Bw.al ?_ ?_); rotate_left; focus (first | omega | (simp; done) | (simp; omega))) | with_reducible refine Below.drew ?_ | with_reducible refine Bw.dr ?_ _))) (hb5.mono (by first | omega | (simp; done) | (simp; omega)))
      first | replace c0 := cell_kept hb5 (by first | omega | (simp; done) | (simp; omega)) c0 | replace c0 := cell_kept hb5 (by first | omega | (simp; done) | (simp; omega)) (cell_alloc c0 (by first | omega | (simp; done) | (simp; omega)) _)
      replace zc0 := lt_cell c0 (by simp)
      first | replace f0 := frz_kept hb5 (by first | omega | (simp; done) | (simp; omega)) f0 | replace f0 := frz_kept hb5 (by first | omega | (simp; done) | (simp; omega)) (frz_alloc f0 (by first | omega | (simp; done) | (simp; omega)) _)
      replace zz : w.heap.size + 1 ≤ w5.heap.size := by have := hb5.size; first | omega | (simp at this; omega)
      clear hb5
      go_wp2_with fail
      refine bodyPost_ret (v := .tuple #[.agg #[.int .i64 0, .int .i64 0], .int .i64 6]) (by simp (maxDischargeDepth := 8) [results, Try.results48, go_sem, c0]) rfl ⟨?_, ?_⟩
      · rfl
      · (repeat (first | with_reducible exact Below.refl _ _ | with_reducible assumption | ((with_reducible refine Bw.set ?_ ?_); rotate_left; focus omega) | ((with_reducible refine Bw.al ?_ ?_); rotate_left; focus (first | omega | (simp; done) | (simp; omega))) | with_reducible refine Below.drew ?_ | with_reducible refine Bw.dr ?_ _))
    rw [k2] at HI
    have HK := Lib.hid k2
    have e4 := eq_str (decide_eq_false (HNO.out x y k2))
    clear k2
    go_wp2_with fail
    refine (HI.out _).mono ?_
    rintro e w5 ⟨rfl, hb5⟩
    replace bb : Below w.heap.size w w5 := Below.trans (by (repeat (first | with_reducible exact Below.refl _ _ | with_reducible assumption | ((with_reducible refine Bw.set ?_ ?_); rotate_left; focus omega) | ((with_reducible refine Bw.al ?_ ?_); rotate_left; focus (first | omega | (simp; done) | (simp; omega))) | with_reducible refine Below.drew ?_ | with_reducible refine Bw.dr ?_ _))) (hb5.mono (by first | omega | (simp; done) | (simp; omega)))
    first | replace c0 := cell_kept hb5 (by first | omega | (simp; done) | (simp; omega)) c0 | replace c0 := cell_kept hb5 (by first | omega | (simp; done) | (simp; omega)) (cell_alloc c0 (by first | omega | (simp; done) | (simp; omega)) _)
    replace zc0 := lt_cell c0 (by simp)
    first | replace c1 := cell_kept hb5 (by first | omega | (simp; done) | (simp; omega)) c1 | replace c1 := cell_kept hb5 (by first | omega | (simp; done) | (simp; omega)) (cell_alloc c1 (by first | omega | (simp; done) | (simp; omega)) _)
    replace zc1 := lt_cell c1 (by simp)
    first | replace f0 := frz_kept hb5 (by first | omega | (simp; done) | (simp; omega)) f0 | replace f0 := frz_kept hb5 (by first | omega | (simp; done) | (simp; omega)) (frz_alloc f0 (by first | omega | (simp; done) | (simp; omega)) _)
    replace zz : w.heap.size + 1 ≤ w5.heap.size := by have := hb5.size; first | omega | (simp at this; omega)
    clear hb5
    go_wp2_with fail
    refine (spec_ivText x y _ HK.out).mono ?_
    rintro e w6 ⟨rfl, hb6⟩
    replace bb : Below w.heap.size w w6 := Below.trans (by (repeat (first | with_reducible exact Below.refl _ _ | with_reducible assumption | ((with_reducible refine Bw.set ?_ ?_); rotate_left; focus omega) | ((with_reducible refine Bw.al ?_ ?_); rotate_left; focus (first | omega | (simp; done) | (simp; omega))) | with_reducible refine Below.drew ?_ | with_reducible refine Bw.dr ?_ _))) (hb6.mono (by first | omega | (simp; done) | (simp; omega)))
    first | replace c0 := cell_kept hb6 (by first | omega | (simp; done) | (simp; omega)) c0 | replace c0 := cell_kept hb6 (by first | omega | (simp; done) | (simp; omega)) (cell_alloc c0 (by first | omega | (simp; done) | (simp; omega)) _)
    replace zc0 := lt_cell c0 (by simp)
    first | replace f0 := frz_kept hb6 (by first | omega | (simp; done) | (simp; omega)) f0 | replace f0 := frz_kept hb6 (by first | omega | (simp; done) | (simp; omega)) (frz_alloc f0 (by first | omega | (simp; done) | (simp; omega)) _)
    replace zz : w.heap.size + 1 ≤ w6.heap.size := by have := hb6.size; first | omega | (simp at this; omega)
    clear hb6
    go_wp2_with fail
    refine bodyPost_ret (v := .tuple #[.agg #[.int .i64 0, .int .i64 0], .int .i64 6]) (by simp (maxDischargeDepth := 8) [results, Try.results48, go_sem, c0]) rfl ⟨?_, ?_⟩
    · rfl
    · (repeat (first | with_reducible exact Below.refl _ _ | with_reducible assumption | ((with_reducible refine Bw.set ?_ ?_); rotate_left; focus omega) | ((with_reducible refine Bw.al ?_ ?_); rotate_left; focus (first | omega | (simp; done) | (simp; omega))) | with_reducible refine Below.drew ?_ | with_reducible refine Bw.dr ?_ _))
  · have e3 := len_eq (n := ps.length) (k := 3) 3 rfl (decide_eq_false h3)
    rcases o1 with _ | _
    · go_wp2_with fail
      refine bodyPost_ret (v := .tuple #[.agg #[.int .i64 0, .int .i64 0], .int .i64 6]) (by simp (maxDischargeDepth := 8) [results, Try.results48, go_sem, c0]) rfl ⟨?_, ?_⟩
      · rfl
      · (repeat (first | with_reducible exact Below.refl _ _ | with_reducible assumption | ((with_reducible refine Bw.set ?_ ?_); rotate_left; focus omega) | ((with_reducible refine Bw.al ?_ ?_); rotate_left; focus (first | omega | (simp; done) | (simp; omega))) | with_reducible refine Below.drew ?_ | with_reducible refine Bw.dr ?_ _))
    have HI := Lib.hid (spec_IsInterval x x)
    rcases k2 : isIv x x with _ | _
    · rw [k2] at HI
      clear k2
      go_wp2_with fail
      refine (HI.out _).mono ?_
      rintro e w5 ⟨rfl, hb5⟩
      replace bb : Below w.heap.size w w5 := Below.trans (by (repeat (first | with_reducible exact Below.refl _ _ | with_reducible assumption | ((with_reducible refine Bw.set ?_ ?_); rotate_left; focus omega) | ((with_reducible refine Bw.al ?_ ?_); rotate_left; focus (first | omega | (simp; done) | (simp; omega))) | with_reducible refine Below.drew ?_ | with_reducible refine Bw.dr ?_ _))) (hb5.mono (by first | omega | (simp; done) | (simp; omega)))
      first | replace c0 := cell_kept hb5 (by first | omega | (simp; done) | (simp; omega)) c0 | replace c0 := cell_kept hb5 (by first | omega | (simp; done) | (simp; omega)) (cell_alloc c0 (by first | omega | (simp; done) | (simp; omega)) _)
      replace zc0 := lt_cell c0 (by simp)
      first | replace f0 := frz_kept hb5 (by first | omega | (simp; done) | (simp; omega)) f0 | replace f0 := frz_kept hb5 (by first | omega | (simp; done) | (simp; omega)) (frz_alloc f0 (by first | omega | (simp; done) | (simp; omega)) _)
      replace zz : w.heap.size + 1 ≤ w5.heap.size := by have := hb5.size; first | omega | (simp at this; omega)
      clear hb5
      go_wp2_with fail
      refine bodyPost_ret (v := .tuple #[.agg #[.int .i64 0, .int .i64 0], .int .i64 6]) (by simp (maxDischargeDepth := 8) [results, Try.results48, go_sem, c0]) rfl ⟨?_, ?_⟩
      · rfl
      · (repeat (first | with_reducible exact Below.refl _ _ | with_reducible assumption | ((with_reducible refine Bw.set ?_ ?_); rotate_left; focus omega) | ((with_reducible refine Bw.al ?_ ?_); rotate_left; focus (first | omega | (simp; done) | (simp; omega))) | with_reducible refine Below.drew ?_ | with_reducible refine Bw.dr ?_ _))
    rw [k2] at HI
    have HK := Lib.hid k2
    have e4 := eq_str (decide_eq_false (HNO.out x x k2))
    clear k2
    go_wp2_with fail
    refine (HI.out _).mono ?_
    rintro e w5 ⟨rfl, hb5⟩
    replace bb : Below w.heap.size w w5 := Below.trans (by (repeat (first | with_reducible exact Below.refl _ _ | with_reducible assumption | ((with_reducible refine Bw.set ?_ ?_); rotate_left; focus omega) | ((with_reducible refine Bw.al ?_ ?_); rotate_left; focus (first | omega | (simp; done) | (simp; omega))) | with_reducible refine Below.drew ?_ | with_reducible refine Bw.dr ?_ _))) (hb5.mono (by first | omega | (simp; done) | (simp; omega)))
    first | replace c0 := cell_kept hb5 (by first | omega | (simp; done) | (simp; omega)) c0 | replace c0 := cell_kept hb5 (by first | omega | (simp; done) | (simp; omega)) (cell_alloc c0 (by first | omega | (simp; done) | (simp; omega)) _)
    replace zc0 := lt_cell c0 (by simp)
    first | replace c1 := cell_kept hb5 (by first | omega | (simp; done) | (simp; omega)) c1 | replace c1 := cell_kept hb5 (by first | omega | (simp; done) | (simp; omega)) (cell_alloc c1 (by first | omega | (simp; done) | (simp; omega)) _)
    replace zc1 := lt_cell c1 (by simp)
    first | replace f0 := frz_kept hb5 (by first | omega | (simp; done) | (simp; omega)) f0 | replace f0 := frz_kept hb5 (by first | omega | (simp; done) | (simp; omega)) (frz_alloc f0 (by first | omega | (simp; done) | (simp; omega)) _)
    replace zz : w.heap.size + 1 ≤ w5.heap.size := by have := hb5.size; first | omega | (simp at this; omega)
    clear hb5
    go_wp2_with fail
    refine (spec_ivText x x _ HK.out).mono ?_
    rintro e w6 ⟨rfl, hb6⟩
    replace bb : Below w.heap.size w w6 := Below.trans (by (repeat (first | with_reducible exact Below.refl _ _ | with_reducible assumption | ((with_reducible refine Bw.set ?_ ?_); rotate_left; focus omega) | ((with_reducible refine Bw.al ?_ ?_); rotate_left; focus (first | omega | (simp; done) | (simp; omega))) | with_reducible refine Below.drew ?_ | with_reducible refine Bw.dr ?_ _))) (hb6.mono (by first | omega | (simp; done) | (simp; omega)))
    first | replace c0 := cell_kept hb6 (by first | omega | (simp; done) | (simp; omega)) c0 | replace c0 := cell_kept hb6 (by first | omega | (simp; done) | (simp; omega)) (cell_alloc c0 (by first | omega | (simp; done) | (simp; omega)) _)
    replace zc0 := lt_cell c0 (by simp)
    first | replace f0 := frz_kept hb6 (by first | omega | (simp; done) | (simp; omega)) f0 | replace f0 := frz_kept hb6 (by first | omega | (simp; done) | (simp; omega)) (frz_alloc f0 (by first | omega | (simp; done) | (simp; omega)) _)
    replace zz : w.heap.size + 1 ≤ w6.heap.size := by have := hb6.size; first | omega | (simp at this; omega)
    clear hb6
    go_wp2_with fail
    refine bodyPost_ret (v := .tuple #[.agg #[.int .i64 0, .int .i64 0], .int .i64 6]) (by simp (maxDischargeDepth := 8) [results, Try.results48, go_sem, c0]) rfl ⟨?_, ?_⟩
    · rfl
    · (repeat (first | with_reducible exact Below.refl _ _ | with_reducible assumption | ((with_reducible refine Bw.set ?_ ?_); rotate_left; focus omega) | ((with_reducible refine Bw.al ?_ ?_); rotate_left; focus (first | omega | (simp; done) | (simp; omega))) | with_reducible refine Below.drew ?_ | with_reducible refine Bw.dr ?_ _))

end Go.Proofs.Ytpejbmfapdocaaa
