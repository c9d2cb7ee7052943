/- Numbers read from texts. Condition: the text is no longer than a slice can be. -/
import Derived.Test.YtpejbmfapdocaaaNum
namespace Go.Proofs.Ytpejbmfapdocaaa
open Go.RowKit

theorem dg45 {s : ByteArray} (h : 0 < s.size) {b : Bool} (hn : negB s = b) : (((s[0]'h).toNat : Int) == 45) = b := by
  rw [bAt_get h]
  simp only [negB, h, decide_true, Bool.true_and] at hn
  rw [← hn, Bool.eq_iff_iff]
  simp
theorem dg48 {d : ByteArray} (h : 0 < d.size) {b : Bool} (hn : decide (bAt d 0 = 48) = b) : (((d[0]'h).toNat : Int) == 48) = b := by
  rw [bAt_get h, ← hn, Bool.eq_iff_iff]
  simp
theorem negB_0 {s : ByteArray} (h : s.size = 0) : negB s = false := by simp [negB, h]
theorem rdF_n {s : ByteArray} (h : negB s = false) : rdF s = rdU s false := by rw [rdF, h]; rfl
theorem rdF_m {s d : ByteArray} (h : negB s = true) (hd : tailB s = d) : rdF s = (-(rdU d true).1, (rdU d true).2) := by rw [rdF, h, hd]; rfl
theorem sgF_n {s : ByteArray} (h : negB s = false) : sgF s = vlF s := by rw [sgF, h]; rfl
theorem sgF_m {s d : ByteArray} (h : negB s = true) (hd : tailB s = d) : sgF s = (-(vlF d).1, (vlF d).2 && decide (0 < (vlF d).1)) := by rw [sgF, h, hd]; rfl
theorem eqBytes (a b : ByteArray) : (a.toList == b.toList) = decide (a = b) := by
  rw [ByteArray.toList_eq, ByteArray.toList_eq, Bool.eq_iff_iff, beq_iff_eq, decide_eq_true_eq]
  exact ⟨fun h => ByteArray.ext (Array.ext' h), fun h => by rw [h]⟩
theorem rdU_le (d : ByteArray) (b : Bool) : -1000000000000000000 ≤ (rdU d b).1 ∧ (rdU d b).1 ≤ 1000000000000000000 := by
  unfold rdU
  split
  · simp
  · rename_i h
    split
    · rename_i h2
      have := valB_18 (s := d) (k := d.size) (fun j hj => allDig_get h2 hj) (by omega)
      show -1000000000000000000 ≤ valB d d.size ∧ valB d d.size ≤ 1000000000000000000
      omega
    · simp
theorem vlF_le (d : ByteArray) : 0 ≤ (vlF d).1 ∧ (vlF d).1 ≤ 1000000000000000000 := by
  unfold vlF
  split
  · simp
  · rename_i h
    split
    · rename_i h2
      have := valB_18 (s := d) (k := d.size) (fun j hj => allDig_get h2 hj) (by omega)
      show 0 ≤ valB d d.size ∧ valB d d.size ≤ 1000000000000000000
      omega
    · simp

set_option maxHeartbeats 4000000 in
theorem impl_readDecimal (s : ByteArray) (w : World) (hs : s.size ≤ maxLen) :
    Calls Try.prog 107 #[.string s] w fun e w' => e = .returned (.tuple #[.int .i64 (rdF s).1, .bool (rdF s).2]) ∧ w = w' := by
  have hm : s.size ≤ 9223372036854775807 := by unfold maxLen at hs; exact hs
  clear hs
  rcases hn : negB s with _ | _
  · have HO := Lib.hid (rdF_n hn)
    generalize rdF s = out at *
    rcases Nat.eq_zero_or_pos s.size with y0 | y0
    · have HB := Lib.hid (rdU_n (d := s) (big := false) (.inl y0))
      have z0' : s.size < 1 := by omega
      have g1 : ((s.size : Int) == 0) = true := by simp [y0]
      have g0 : decide (0 < (s.size : Int)) = false := decide_eq_false (by omega)
      clear y0 hn
      go_enter Try.func107, Try.ntmps107
      go_wp2_with fail
      go_ret2
      exact ⟨by rw [HO.out, HB.out]; rfl, rfl⟩
    have e45 := dg45 y0 hn
    have g0 : decide (0 < (s.size : Int)) = true := decide_eq_true (by omega)
    clear hn
    go_enter Try.func107, Try.ntmps107
    go_upto_region 4 with fail
    by_cases z0 : s.size = 0
    · have HB := Lib.hid (rdU_n (d := s) (big := false) (.inl z0))
      have g1 : ((s.size : Int) == 0) = true := by simp [z0]
      have z0' : s.size < 1 := by omega
      clear z0
      go_wp2_with fail
      go_ret2
      exact ⟨by rw [HO.out, HB.out]; rfl, rfl⟩
    have z1 : 0 < s.size := by omega
    have g1 : ((s.size : Int) == 0) = false := beq_eq_false_iff_ne.2 (by omega)
    by_cases z18 : 18 < s.size
    · have HB := Lib.hid (rdU_n (d := s) (big := false) (.inr (.inl z18)))
      have g2 : decide (18 < (s.size : Int)) = true := decide_eq_true (by omega)
      clear z0
      go_wp2_with fail
      go_ret2
      exact ⟨by rw [HO.out, HB.out]; rfl, rfl⟩
    have g2 : decide (18 < (s.size : Int)) = false := decide_eq_false (by omega)
    rcases h48 : decide (bAt s 0 = 48) with _ | _
    rotate_left
    · have e48 := dg48 z1 h48
      by_cases z2 : 1 < s.size
      · have HB := Lib.hid (rdU_n (d := s) (big := false) (.inr (.inr ⟨of_decide_eq_true h48, .inl z2⟩)))
        have g3 : decide (1 < (s.size : Int)) = true := decide_eq_true (by omega)
        clear h48 z0
        go_wp2_with fail
        go_ret2
        exact ⟨by rw [HO.out, HB.out]; rfl, rfl⟩
      · have HN := Lib.hid (fun h => rdU_y (d := s) (big := false) (fun k => by rcases k with k | k | ⟨_, k | k⟩; exact z0 k; exact z18 k; exact z2 k; cases k) h)
        have g3 : decide (1 < (s.size : Int)) = false := decide_eq_false (by omega)
        clear h48 z0
        go_wp2_with fail
        go_loop [5, 6] (fun sn si => ∃ k : Nat, k ≤ s.size ∧ si = .int .i64 k ∧ sn = .int .i64 (valB s k) ∧ ∀ j, j < k → digAt s j = true) (fun _ si => s.size - (intOf si).toNat)
        case atStart => exact ⟨0, Nat.zero_le _, rfl, rfl, fun j h => absurd h (by omega)⟩
        case round =>
          obtain ⟨k, hk, rfl, rfl, hok⟩ := hrel
          have HL := Lib.hid hok
          clear hok
          by_cases hlt : k < s.size
          · have hv := valB_17 HL.out (by omega)
            by_cases q1 : (s[k].toNat : Int) < 48
            · have HB := Lib.hid (allDig_f hlt (digAt_f hlt (.inl q1)))
              go_wp2_with fail
              go_ret2
              exact ⟨by rw [HO.out, rdU_d HB.out]; rfl, rfl⟩
            by_cases q2 : 57 < (s[k].toNat : Int)
            · have HB := Lib.hid (allDig_f hlt (digAt_f hlt (.inr q2)))
              go_wp2_with fail
              go_ret2
              exact ⟨by rw [HO.out, rdU_d HB.out]; rfl, rfl⟩
            have HS := Lib.hid (valB_s hlt)
            have hu : IntKind.u8.wrap ((s[k].toNat : Int) - 48) = (s[k].toNat : Int) - 48 := IntWalk.u8_in _ (by omega)
            go_wp2_with fail
            go_round
            case rel =>
              refine ⟨k + 1, by omega, by go_num, by rw [HS.out], fun j hj => ?_⟩
              by_cases e : j = k
              · subst e; exact digAt_t hlt (by omega) (by omega)
              · exact HL.out j (by omega)
            case measure => simp [intOf]; omega
          · obtain rfl : k = s.size := by omega
            have hv := valB_18 HL.out (by omega)
            have HG := Lib.hid (allDig_t HL.out)
            go_wp2_with fail
            go_ret2
            exact ⟨by rw [HO.out, HN.out HG.out]; rfl, rfl⟩
        
    · have e48 := dg48 z1 h48
      have HN := Lib.hid (fun h => rdU_y (d := s) (big := false) (fun k => by rcases k with k | k | ⟨k, _⟩; exact z0 k; exact z18 k; exact of_decide_eq_false h48 k) h)
      clear h48 z0
      go_wp2_with fail
      go_loop [5, 6] (fun sn si => ∃ k : Nat, k ≤ s.size ∧ si = .int .i64 k ∧ sn = .int .i64 (valB s k) ∧ ∀ j, j < k → digAt s j = true) (fun _ si => s.size - (intOf si).toNat)
      case atStart => exact ⟨0, Nat.zero_le _, rfl, rfl, fun j h => absurd h (by omega)⟩
      case round =>
        obtain ⟨k, hk, rfl, rfl, hok⟩ := hrel
        have HL := Lib.hid hok
        clear hok
        by_cases hlt : k < s.size
        · have hv := valB_17 HL.out (by omega)
          by_cases q1 : (s[k].toNat : Int) < 48
          · have HB := Lib.hid (allDig_f hlt (digAt_f hlt (.inl q1)))
            go_wp2_with fail
            go_ret2
            exact ⟨by rw [HO.out, rdU_d HB.out]; rfl, rfl⟩
          by_cases q2 : 57 < (s[k].toNat : Int)
          · have HB := Lib.hid (allDig_f hlt (digAt_f hlt (.inr q2)))
            go_wp2_with fail
            go_ret2
            exact ⟨by rw [HO.out, rdU_d HB.out]; rfl, rfl⟩
          have HS := Lib.hid (valB_s hlt)
          have hu : IntKind.u8.wrap ((s[k].toNat : Int) - 48) = (s[k].toNat : Int) - 48 := IntWalk.u8_in _ (by omega)
          go_wp2_with fail
          go_round
          case rel =>
            refine ⟨k + 1, by omega, by go_num, by rw [HS.out], fun j hj => ?_⟩
            by_cases e : j = k
            · subst e; exact digAt_t hlt (by omega) (by omega)
            · exact HL.out j (by omega)
          case measure => simp [intOf]; omega
        · obtain rfl : k = s.size := by omega
          have hv := valB_18 HL.out (by omega)
          have HG := Lib.hid (allDig_t HL.out)
          go_wp2_with fail
          go_ret2
          exact ⟨by rw [HO.out, HN.out HG.out]; rfl, rfl⟩
      
    
  · have HP := Lib.hid (fun d (h : tailB s = d) => rdF_m hn h)
    generalize rdF s = out at *
    have y0 : 0 < s.size := by
      rcases Nat.eq_zero_or_pos s.size with y0 | y0
      · rw [negB_0 y0] at hn; cases hn
      · exact y0
    have e45 := dg45 y0 hn
    have hsz := tailB_size s
    have g0 : decide (0 < (s.size : Int)) = true := decide_eq_true (by omega)
    have HO := Lib.hid (HP.out _ rfl)
    clear hn HP
    go_enter Try.func107, Try.ntmps107
    go_upto_region 4 with fail
    change (tailB s).size = s.size - 1 at hsz
    have ht : s.extract 1 s.size = tailB s := rfl
    rw [ht]
    clear ht
    generalize tailB s = d at *
    have hsz1 : d.size < s.size := by omega
    have hsz2 : 1 < s.size ∨ d.size = 0 := by omega
    clear hsz
    by_cases z0 : d.size = 0
    · have HB := Lib.hid (rdU_n (d := d) (big := true) (.inl z0))
      have g1 : ((d.size : Int) == 0) = true := by simp [z0]
      have z0' : d.size < 1 := by omega
      clear z0
      go_wp2_with fail
      go_ret2
      exact ⟨by rw [HO.out, HB.out]; rfl, rfl⟩
    have z1 : 0 < d.size := by omega
    have g1 : ((d.size : Int) == 0) = false := beq_eq_false_iff_ne.2 (by omega)
    by_cases z18 : 18 < d.size
    · have HB := Lib.hid (rdU_n (d := d) (big := true) (.inr (.inl z18)))
      have g2 : decide (18 < (d.size : Int)) = true := decide_eq_true (by omega)
      clear z0
      go_wp2_with fail
      go_ret2
      exact ⟨by rw [HO.out, HB.out]; rfl, rfl⟩
    have g2 : decide (18 < (d.size : Int)) = false := decide_eq_false (by omega)
    rcases h48 : decide (bAt d 0 = 48) with _ | _
    rotate_left
    · have e48 := dg48 z1 h48
      have HB := Lib.hid (rdU_n (d := d) (big := true) (.inr (.inr ⟨of_decide_eq_true h48, .inr rfl⟩)))
      have g4 : decide (1 < (s.size : Int)) = true := decide_eq_true (by omega)
      clear h48 z0
      by_cases z2 : 1 < d.size
      · have g3 : decide (1 < (d.size : Int)) = true := decide_eq_true (by omega)
        go_wp2_with fail
        go_ret2
        exact ⟨by rw [HO.out, HB.out]; rfl, rfl⟩
      · have g3 : decide (1 < (d.size : Int)) = false := decide_eq_false (by omega)
        go_wp2_with fail
        go_ret2
        exact ⟨by rw [HO.out, HB.out]; rfl, rfl⟩
    · have e48 := dg48 z1 h48
      have HN := Lib.hid (fun h => rdU_y (d := d) (big := true) (fun k => by rcases k with k | k | ⟨k, _⟩; exact z0 k; exact z18 k; exact of_decide_eq_false h48 k) h)
      clear h48 z0
      go_wp2_with fail
      go_loop [5, 6] (fun sn si => ∃ k : Nat, k ≤ d.size ∧ si = .int .i64 k ∧ sn = .int .i64 (valB d k) ∧ ∀ j, j < k → digAt d j = true) (fun _ si => d.size - (intOf si).toNat)
      case atStart => exact ⟨0, Nat.zero_le _, rfl, rfl, fun j h => absurd h (by omega)⟩
      case round =>
        obtain ⟨k, hk, rfl, rfl, hok⟩ := hrel
        have HL := Lib.hid hok
        clear hok
        by_cases hlt : k < d.size
        · have hv := valB_17 HL.out (by omega)
          by_cases q1 : (d[k].toNat : Int) < 48
          · have HB := Lib.hid (allDig_f hlt (digAt_f hlt (.inl q1)))
            go_wp2_with fail
            go_ret2
            exact ⟨by rw [HO.out, rdU_d HB.out]; rfl, rfl⟩
          by_cases q2 : 57 < (d[k].toNat : Int)
          · have HB := Lib.hid (allDig_f hlt (digAt_f hlt (.inr q2)))
            go_wp2_with fail
            go_ret2
            exact ⟨by rw [HO.out, rdU_d HB.out]; rfl, rfl⟩
          have HS := Lib.hid (valB_s hlt)
          have hu : IntKind.u8.wrap ((d[k].toNat : Int) - 48) = (d[k].toNat : Int) - 48 := IntWalk.u8_in _ (by omega)
          go_wp2_with fail
          go_round
          case rel =>
            refine ⟨k + 1, by omega, by go_num, by rw [HS.out], fun j hj => ?_⟩
            by_cases e : j = k
            · subst e; exact digAt_t hlt (by omega) (by omega)
            · exact HL.out j (by omega)
          case measure => simp [intOf]; omega
        · obtain rfl : k = d.size := by omega
          have hv := valB_18 HL.out (by omega)
          have HG := Lib.hid (allDig_t HL.out)
          go_wp2_with fail
          go_ret2
          exact ⟨by rw [HO.out, HN.out HG.out]; rfl, rfl⟩
      
    
set_option maxHeartbeats 4000000 in
theorem spec_Value (s : ByteArray) (w : World) (hs : s.size ≤ maxLen) :
    Calls Try.prog 117 #[.string s] w fun e w' => e = .returned (.tuple #[.int .i64 (vlF s).1, .bool (vlF s).2]) ∧ Below w.heap.size w w' := by
  have hm : s.size ≤ 9223372036854775807 := by unfold maxLen at hs; exact hs
  clear hs
  by_cases z0 : s.size < 1
  · rw [vlF_n (.inl z0)]
    have g1 : decide ((s.size : Int) < 1) = true := decide_eq_true (by omega)
    go_enter Try.func117, Try.ntmps117
    go_wp2_with fail
    go_ret2
    exact ⟨rfl, by (repeat (first | with_reducible exact Below.refl _ _ | with_reducible assumption | ((with_reducible refine Bw.set ?_ ?_); rotate_left; focus omega) | ((with_reducible refine Bw.al ?_ ?_); rotate_left; focus (first | omega | (simp; done) | (simp; omega))) | with_reducible refine Below.drew ?_ | with_reducible refine Bw.dr ?_ _))⟩
  have g1 : decide ((s.size : Int) < 1) = false := decide_eq_false (by omega)
  by_cases z13 : 13 < s.size
  · rw [vlF_n (.inr z13)]
    have g2 : decide (13 < (s.size : Int)) = true := decide_eq_true (by omega)
    go_enter Try.func117, Try.ntmps117
    go_wp2_with fail
    go_ret2
    exact ⟨rfl, by (repeat (first | with_reducible exact Below.refl _ _ | with_reducible assumption | ((with_reducible refine Bw.set ?_ ?_); rotate_left; focus omega) | ((with_reducible refine Bw.al ?_ ?_); rotate_left; focus (first | omega | (simp; done) | (simp; omega))) | with_reducible refine Below.drew ?_ | with_reducible refine Bw.dr ?_ _))⟩
  have g2 : decide (13 < (s.size : Int)) = false := decide_eq_false (by omega)
  have HN := Lib.hid (fun h => vlF_y (s := s) (by omega) h)
  have HD := Lib.hid (fun h => vlF_d (s := s) h)
  generalize vlF s = out at *
  go_enter Try.func117, Try.ntmps117
  go_wp2_with fail
  go_loop [4, 5] (fun sn si => ∃ k : Nat, k ≤ s.size ∧ si = .int .i64 k ∧ sn = .int .i64 (valB s k) ∧ ∀ j, j < k → digAt s j = true) (fun _ si => s.size - (intOf si).toNat)
  case atStart => exact ⟨0, Nat.zero_le _, rfl, rfl, fun j h => absurd h (by omega)⟩
  case round =>
    obtain ⟨k, hk, rfl, rfl, hok⟩ := hrel
    have HL := Lib.hid hok
    clear hok
    by_cases hlt : k < s.size
    · have hv := valB_17 HL.out (by omega)
      by_cases q1 : (s[k].toNat : Int) < 48
      · have HB := Lib.hid (allDig_f hlt (digAt_f hlt (.inl q1)))
        go_wp2_with fail
        go_ret2
        exact ⟨by rw [HD.out HB.out]; rfl, by (repeat (first | with_reducible exact Below.refl _ _ | with_reducible assumption | ((with_reducible refine Bw.set ?_ ?_); rotate_left; focus omega) | ((with_reducible refine Bw.al ?_ ?_); rotate_left; focus (first | omega | (simp; done) | (simp; omega))) | with_reducible refine Below.drew ?_ | with_reducible refine Bw.dr ?_ _))⟩
      by_cases q2 : 57 < (s[k].toNat : Int)
      · have HB := Lib.hid (allDig_f hlt (digAt_f hlt (.inr q2)))
        go_wp2_with fail
        go_ret2
        exact ⟨by rw [HD.out HB.out]; rfl, by (repeat (first | with_reducible exact Below.refl _ _ | with_reducible assumption | ((with_reducible refine Bw.set ?_ ?_); rotate_left; focus omega) | ((with_reducible refine Bw.al ?_ ?_); rotate_left; focus (first | omega | (simp; done) | (simp; omega))) | with_reducible refine Below.drew ?_ | with_reducible refine Bw.dr ?_ _))⟩
      have HS := Lib.hid (valB_s hlt)
      have hu : IntKind.u8.wrap ((s[k].toNat : Int) - 48) = (s[k].toNat : Int) - 48 := IntWalk.u8_in _ (by omega)
      go_wp2_with fail
      go_round
      case rel =>
        refine ⟨k + 1, by omega, by go_num, by rw [HS.out], fun j hj => ?_⟩
        by_cases e : j = k
        · subst e; exact digAt_t hlt (by omega) (by omega)
        · exact HL.out j (by omega)
      case measure => simp [intOf]; omega
    · obtain rfl : k = s.size := by omega
      have hv := valB_18 HL.out (by omega)
      have HG := Lib.hid (allDig_t HL.out)
      have HO := Lib.hid (HN.out HG.out)
      generalize valB s s.size = v at *
      go_wp2_with fail
      refine (spec_Dec _ _ (by omega) (by omega)).mono ?_
      rintro e w1 ⟨rfl, hb1⟩
      go_wp2_with fail
      go_ret2
      exact ⟨by rw [HO.out, ← eqBytes]; rfl, hb1⟩
  
set_option maxHeartbeats 4000000 in
theorem spec_Signed (s : ByteArray) (w : World) (hs : s.size ≤ maxLen) :
    Calls Try.prog 125 #[.string s] w fun e w' => e = .returned (.tuple #[.int .i64 (sgF s).1, .bool (sgF s).2]) ∧ Below w.heap.size w w' := by
  have HM := Lib.hid hs
  have hm : s.size ≤ 9223372036854775807 := by unfold maxLen at hs; exact hs
  clear hs
  rcases hn : negB s with _ | _
  · rw [sgF_n hn]
    rcases Nat.eq_zero_or_pos s.size with y0 | y0
    · have g0 : decide (0 < (s.size : Int)) = false := decide_eq_false (by omega)
      have z0' : s.size < 1 := by omega
      clear y0 hn
      go_enter Try.func125, Try.ntmps125
      go_wp2_with fail
      (with_reducible refine (spec_Value _ _ HM.out).mono ?_)
      rintro e w1 ⟨rfl, hb1⟩
      go_wp2_with fail
      go_ret2
      exact ⟨rfl, hb1⟩
    · have g0 : decide (0 < (s.size : Int)) = true := decide_eq_true (by omega)
      have e45 := dg45 y0 hn
      clear hn
      go_enter Try.func125, Try.ntmps125
      go_wp2_with fail
      (with_reducible refine (spec_Value _ _ HM.out).mono ?_)
      rintro e w1 ⟨rfl, hb1⟩
      go_wp2_with fail
      go_ret2
      exact ⟨rfl, hb1⟩
  · have y0 : 0 < s.size := by
      rcases Nat.eq_zero_or_pos s.size with y0 | y0
      · rw [negB_0 y0] at hn; cases hn
      · exact y0
    have e45 := dg45 y0 hn
    have g0 : decide (0 < (s.size : Int)) = true := decide_eq_true (by omega)
    have HO := Lib.hid (sgF_m hn rfl)
    have hsz := tailB_size s
    have HZ := Lib.hid (show (tailB s).size ≤ maxLen by have := HM.out; omega)
    have hv := vlF_le (tailB s)
    generalize sgF s = out at *
    clear hn hsz
    have HT := Lib.hid (show s.extract 1 s.size = tailB s from rfl)
    generalize tailB s = d at *
    rcases h2 : (vlF d).2 with _ | _
    · have H2 := Lib.hid h2
      clear h2
      go_enter Try.func125, Try.ntmps125
      go_wp2_with fail
      rw [HT.out]
      refine (spec_Value _ _ HZ.out).mono ?_
      rintro e w1 ⟨rfl, hb1⟩
      rw [H2.out]
      go_wp2_with fail
      go_ret2
      exact ⟨by rw [HO.out, H2.out]; rfl, hb1⟩
    · have H2 := Lib.hid h2
      clear h2
      have HO3 := Lib.hid (show out = (-(vlF d).1, decide (0 < (vlF d).1)) by rw [HO.out, H2.out]; rfl)
      go_enter Try.func125, Try.ntmps125
      go_wp2_with fail
      rw [HT.out]
      refine (spec_Value _ _ HZ.out).mono ?_
      rintro e w1 ⟨rfl, hb1⟩
      rw [H2.out]
      go_wp2_with fail
      go_ret2
      exact ⟨by rw [HO3.out]; rfl, hb1⟩

end Go.Proofs.Ytpejbmfapdocaaa
