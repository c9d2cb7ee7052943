/- Measures read. Condition: the text has at most 1048576 bytes. -/
import Derived.Test.YtpejbmfapdocaaaNumR
namespace Go.Proofs.Ytpejbmfapdocaaa
open Go.RowKit

def sLen : Value → Nat
  | .string x => x.size
  | _ => 0
theorem rdF_bd (s : ByteArray) : -1000000000000000000 ≤ (rdF s).1 ∧ (rdF s).1 ≤ 1000000000000000000 := by
  unfold rdF
  split
  · have := rdU_le (tailB s) true; simp only; omega
  · exact rdU_le s false
theorem mdg_start {u : Int} (h0 : 0 ≤ u) : Value.string (mdg u) = .string (decI u) ∨ (u < 10 ∧ Value.string (mdg u) = .string (dgB 0 ++ decI u)) := by
  rcases Int.lt_or_le u 10 with h | h
  · exact .inr ⟨h, by rw [mdg_small h0 h]⟩
  · exact .inl (by rw [mdg_big h])
theorem eq_str {a b : ByteArray} {c : Bool} (h : decide (a = b) = c) : (a.toList == b.toList) = c := by rw [eqBytes, h]
theorem dgn {d : ByteArray} (h : 0 < d.size) {b : Bool} {n : Nat} {k : Int} (_hk : (n : Int) = k) (hn : decide (bAt d 0 = k) = b) : (((d[0]'h).toNat : Int) == k) = b := by
  rw [bAt_get h, ← hn, Bool.eq_iff_iff]
  simp
set_option maxHeartbeats 8000000 in
theorem impl_readMeasure_n (s : ByteArray) (w : World) (hs : s.size ≤ 1048576) (hno : ∀ v, isVal v = true → mesB v ≠ s) :
    Calls Try.prog 116 #[.string s] w fun e w' => e = .returned (.tuple #[.int .i64 0, .bool false]) ∧ Below w.heap.size w w' := by
  have HNO := Lib.hid hno
  clear hno
  by_cases h3 : s.size < 3
  · have g1 : decide ((s.size : Int) < 3) = true := decide_eq_true (by omega)
    go_enter Try.func116, Try.ntmps116
    go_wp2_with fail
    go_ret2
    exact ⟨rfl, by (repeat (first | with_reducible exact Below.refl _ _ | with_reducible assumption | ((with_reducible refine Bw.set ?_ ?_); rotate_left; focus omega) | ((with_reducible refine Bw.al ?_ ?_); rotate_left; focus (first | omega | (simp; done) | (simp; omega))) | with_reducible refine Below.drew ?_ | with_reducible refine Bw.dr ?_ _))⟩
  have g1 : decide ((s.size : Int) < 3) = false := decide_eq_false (by omega)
  rcases hd : (((s[s.size - 2]'(by omega)).toNat : Int) != 46) with _ | _
  rotate_left
  · go_enter Try.func116, Try.ntmps116
    go_wp2_with fail
    go_ret2
    exact ⟨rfl, by (repeat (first | with_reducible exact Below.refl _ _ | with_reducible assumption | ((with_reducible refine Bw.set ?_ ?_); rotate_left; focus omega) | ((with_reducible refine Bw.al ?_ ?_); rotate_left; focus (first | omega | (simp; done) | (simp; omega))) | with_reducible refine Below.drew ?_ | with_reducible refine Bw.dr ?_ _))⟩
  have q1 : IntKind.i64.wrap ((s.size : Int) - 2) = (s.size : Int) - 2 := IntWalk.i64_in _ (by omega)
  have q2 : ((s.size : Int) - 2).toNat = s.size - 2 := by omega
  have q3 : (0 : Int) ≤ (s.size : Int) - 2 := by omega
  have q4 : (s.size : Int) - 2 ≤ s.size := by omega
  have q5 : IntKind.i64.wrap ((s.size : Int) - 1) = (s.size : Int) - 1 := IntWalk.i64_in _ (by omega)
  have q6 : ((s.size : Int) - 1).toNat = s.size - 1 := by omega
  have q7 : (0 : Int) ≤ (s.size : Int) - 1 := by omega
  have q8 : (s.size : Int) - 1 ≤ s.size := by omega
  have hcat : ¬ 9223372036854775807 < (s.extract 0 (s.size - 2)).size + (s.extract (s.size - 1) s.size).size := by simp; omega
  have hD0 : (s.extract 0 (s.size - 2) ++ s.extract (s.size - 1) s.size).size = s.size - 1 := by rw [ByteArray.size_append]; simp; omega
  have HD0 := Lib.hid hD0
  clear hD0
  go_enter Try.func116, Try.ntmps116
  go_wp2_with fail
  refine region_aft w (by kernel_rfl) (by kernel_rfl) (Below.refl _ _) ?_
  repeat (go_big_quiet_step (fail))
  refine wpQuiet_nil ?_
  rintro w1 ⟨⟨_, b1⟩, rfl⟩
  have HBW := Lib.hid b1
  go_upto_region 5 with fail
  have hD0 := HD0.out
  clear HD0
  generalize s.extract 0 (s.size - 2) ++ s.extract (s.size - 1) s.size = D0 at *
  have d1 : 2 ≤ D0.size := by omega
  have d2 : D0.size ≤ 1048576 := by omega
  clear hD0
  rcases h45 : decide (bAt D0 0 = 45) with _ | _
  · have e45 := dgn (n := 45) (k := 45) (by omega) rfl h45
    clear h45
    go_wp2_with fail
    try simp only [e45]
    go_loop [4] (fun s4 => ∃ D : ByteArray, s4 = .string D ∧ 1 ≤ D.size ∧ D.size ≤ 1048576) (fun s4 => sLen s4)
    case atStart => exact ⟨D0, rfl, by omega, by omega⟩
    case round =>
      obtain ⟨D, rfl, hd1, hd2⟩ := hrel
      by_cases h1 : 1 < D.size
      · have g2 : decide (1 < (D.size : Int)) = true := decide_eq_true (by omega)
        rcases h48 : decide (bAt D 0 = 48) with _ | _
        · have e48 := dg48 (by omega) h48
          clear h48
          have HZ2 := Lib.hid (show D.size ≤ maxLen by unfold maxLen; omega)
          have nb := rdF_bd D
          rcases h2 : (rdF D).2 with _ | _
          · have H2 := Lib.hid h2
            clear h2
            go_wp2_with fail
            (with_reducible refine (impl_readDecimal D _ HZ2.out).mono ?_)
            rintro e w3 ⟨rfl, rfl⟩
            rw [H2.out]
            go_wp2_with fail
            go_ret2
            exact ⟨rfl, HBW.out⟩
          have H2 := Lib.hid h2
          clear h2
          obtain ⟨n, hn⟩ : ∃ n, (rdF D).1 = n := ⟨_, rfl⟩
          rw [hn] at nb
          have HN := Lib.hid hn
          clear hn
          by_cases n0 : n < 0
          · go_wp2_with fail
            (with_reducible refine (impl_readDecimal D _ HZ2.out).mono ?_)
            rintro e w3 ⟨rfl, rfl⟩
            rw [H2.out, HN.out]
            go_wp2_with fail
            go_ret2
            exact ⟨rfl, HBW.out⟩
          have n0' : decide (n < 0) = false := decide_eq_false n0
          rcases h3 : isVal n with _ | _
          · have H3 := Lib.hid h3
            clear h3
            go_wp2_with fail
            (with_reducible refine (impl_readDecimal D _ HZ2.out).mono ?_)
            rintro e w3 ⟨rfl, rfl⟩
            rw [H2.out, HN.out]
            go_wp2_with fail
            (with_reducible refine (impl_isValue H3.out _).mono ?_)
            rintro e w4 ⟨rfl, rfl⟩
            go_wp2_with fail
            go_ret2
            exact ⟨rfl, HBW.out⟩
          have n1 := inB_t h3
          have H3 := Lib.hid h3
          have H4 := Lib.hid (show isVal (n) = true by exact h3)
          have e4 := eq_str (decide_eq_false (HNO.out (n) H4.out))
          clear h3
          go_wp2_with fail
          (with_reducible refine (impl_readDecimal D _ HZ2.out).mono ?_)
          rintro e w3 ⟨rfl, rfl⟩
          rw [H2.out, HN.out]
          go_wp2_with fail
          (with_reducible refine (impl_isValue H3.out _).mono ?_)
          rintro e w4 ⟨rfl, rfl⟩
          go_wp2_with fail
          (with_reducible refine (impl_measure (n) _ H4.out).mono ?_)
          rintro e w5 ⟨rfl, hb5⟩
          replace HBW := Lib.hid (HBW.out.trans (hb5.mono HBW.out.size))
          clear hb5
          go_wp2_with fail
          go_ret2
          exact ⟨rfl, HBW.out⟩
        · have e48 := dg48 (by omega) h48
          have HT := Lib.hid (tailB_size D)
          have HE := Lib.hid (show D.extract 1 D.size = tailB D from rfl)
          clear h48
          go_wp2_with fail
          go_round
          case rel => exact ⟨tailB D, by rw [← HE.out], by have := HT.out; omega, by have := HT.out; omega⟩
          case measure =>
            have := HT.out
            rw [HE.out]
            show sLen (.string (tailB D)) < sLen (.string D)
            simp only [sLen]
            omega
      · have g2 : decide (1 < (D.size : Int)) = false := decide_eq_false (by omega)
        have HZ2 := Lib.hid (show D.size ≤ maxLen by unfold maxLen; omega)
        have nb := rdF_bd D
        rcases h2 : (rdF D).2 with _ | _
        · have H2 := Lib.hid h2
          clear h2
          go_wp2_with fail
          (with_reducible refine (impl_readDecimal D _ HZ2.out).mono ?_)
          rintro e w3 ⟨rfl, rfl⟩
          rw [H2.out]
          go_wp2_with fail
          go_ret2
          exact ⟨rfl, HBW.out⟩
        have H2 := Lib.hid h2
        clear h2
        obtain ⟨n, hn⟩ : ∃ n, (rdF D).1 = n := ⟨_, rfl⟩
        rw [hn] at nb
        have HN := Lib.hid hn
        clear hn
        by_cases n0 : n < 0
        · go_wp2_with fail
          (with_reducible refine (impl_readDecimal D _ HZ2.out).mono ?_)
          rintro e w3 ⟨rfl, rfl⟩
          rw [H2.out, HN.out]
          go_wp2_with fail
          go_ret2
          exact ⟨rfl, HBW.out⟩
        have n0' : decide (n < 0) = false := decide_eq_false n0
        rcases h3 : isVal n with _ | _
        · have H3 := Lib.hid h3
          clear h3
          go_wp2_with fail
          (with_reducible refine (impl_readDecimal D _ HZ2.out).mono ?_)
          rintro e w3 ⟨rfl, rfl⟩
          rw [H2.out, HN.out]
          go_wp2_with fail
          (with_reducible refine (impl_isValue H3.out _).mono ?_)
          rintro e w4 ⟨rfl, rfl⟩
          go_wp2_with fail
          go_ret2
          exact ⟨rfl, HBW.out⟩
        have n1 := inB_t h3
        have H3 := Lib.hid h3
        have H4 := Lib.hid (show isVal (n) = true by exact h3)
        have e4 := eq_str (decide_eq_false (HNO.out (n) H4.out))
        clear h3
        go_wp2_with fail
        (with_reducible refine (impl_readDecimal D _ HZ2.out).mono ?_)
        rintro e w3 ⟨rfl, rfl⟩
        rw [H2.out, HN.out]
        go_wp2_with fail
        (with_reducible refine (impl_isValue H3.out _).mono ?_)
        rintro e w4 ⟨rfl, rfl⟩
        go_wp2_with fail
        (with_reducible refine (impl_measure (n) _ H4.out).mono ?_)
        rintro e w5 ⟨rfl, hb5⟩
        replace HBW := Lib.hid (HBW.out.trans (hb5.mono HBW.out.size))
        clear hb5
        go_wp2_with fail
        go_ret2
        exact ⟨rfl, HBW.out⟩
  · have e45 := dgn (n := 45) (k := 45) (by omega) rfl h45
    have HT := Lib.hid (tailB_size D0)
    have HE := Lib.hid (show D0.extract 1 D0.size = tailB D0 from rfl)
    clear h45
    go_upto_region 8 with fail
    rw [HE.out]
    try simp only [e45]
    have hT := HT.out
    clear HT HE
    generalize tailB D0 = D1 at *
    have t1 : 1 ≤ D1.size := by omega
    have t2 : D1.size ≤ 1048576 := by omega
    clear hT e45
    go_loop [4] (fun s4 => ∃ D : ByteArray, s4 = .string D ∧ 1 ≤ D.size ∧ D.size ≤ 1048576) (fun s4 => sLen s4)
    case atStart => exact ⟨D1, rfl, by omega, by omega⟩
    case round =>
      obtain ⟨D, rfl, hd1, hd2⟩ := hrel
      by_cases h1 : 1 < D.size
      · have g2 : decide (1 < (D.size : Int)) = true := decide_eq_true (by omega)
        rcases h48 : decide (bAt D 0 = 48) with _ | _
        · have e48 := dg48 (by omega) h48
          clear h48
          have HZ2 := Lib.hid (show D.size ≤ maxLen by unfold maxLen; omega)
          have nb := rdF_bd D
          rcases h2 : (rdF D).2 with _ | _
          · have H2 := Lib.hid h2
            clear h2
            go_wp2_with fail
            (with_reducible refine (impl_readDecimal D _ HZ2.out).mono ?_)
            rintro e w3 ⟨rfl, rfl⟩
            rw [H2.out]
            go_wp2_with fail
            go_ret2
            exact ⟨rfl, HBW.out⟩
          have H2 := Lib.hid h2
          clear h2
          obtain ⟨n, hn⟩ : ∃ n, (rdF D).1 = n := ⟨_, rfl⟩
          rw [hn] at nb
          have HN := Lib.hid hn
          clear hn
          by_cases n0 : n < 0
          · go_wp2_with fail
            (with_reducible refine (impl_readDecimal D _ HZ2.out).mono ?_)
            rintro e w3 ⟨rfl, rfl⟩
            rw [H2.out, HN.out]
            go_wp2_with fail
            go_ret2
            exact ⟨rfl, HBW.out⟩
          have n0' : decide (n < 0) = false := decide_eq_false n0
          rcases h3 : isVal n with _ | _
          · have H3 := Lib.hid h3
            clear h3
            go_wp2_with fail
            (with_reducible refine (impl_readDecimal D _ HZ2.out).mono ?_)
            rintro e w3 ⟨rfl, rfl⟩
            rw [H2.out, HN.out]
            go_wp2_with fail
            (with_reducible refine (impl_isValue H3.out _).mono ?_)
            rintro e w4 ⟨rfl, rfl⟩
            go_wp2_with fail
            go_ret2
            exact ⟨rfl, HBW.out⟩
          have n1 := inB_t h3
          have H3 := Lib.hid h3
          have H4 := Lib.hid (show isVal (-n) = true by rw [isVal_neg]; exact h3)
          have e4 := eq_str (decide_eq_false (HNO.out (-n) H4.out))
          clear h3
          go_wp2_with fail
          (with_reducible refine (impl_readDecimal D _ HZ2.out).mono ?_)
          rintro e w3 ⟨rfl, rfl⟩
          rw [H2.out, HN.out]
          go_wp2_with fail
          (with_reducible refine (impl_isValue H3.out _).mono ?_)
          rintro e w4 ⟨rfl, rfl⟩
          go_wp2_with fail
          (with_reducible refine (impl_measure (-n) _ H4.out).mono ?_)
          rintro e w5 ⟨rfl, hb5⟩
          replace HBW := Lib.hid (HBW.out.trans (hb5.mono HBW.out.size))
          clear hb5
          go_wp2_with fail
          go_ret2
          exact ⟨rfl, HBW.out⟩
        · have e48 := dg48 (by omega) h48
          have HT := Lib.hid (tailB_size D)
          have HE := Lib.hid (show D.extract 1 D.size = tailB D from rfl)
          clear h48
          go_wp2_with fail
          go_round
          case rel => exact ⟨tailB D, by rw [← HE.out], by have := HT.out; omega, by have := HT.out; omega⟩
          case measure =>
            have := HT.out
            rw [HE.out]
            show sLen (.string (tailB D)) < sLen (.string D)
            simp only [sLen]
            omega
      · have g2 : decide (1 < (D.size : Int)) = false := decide_eq_false (by omega)
        have HZ2 := Lib.hid (show D.size ≤ maxLen by unfold maxLen; omega)
        have nb := rdF_bd D
        rcases h2 : (rdF D).2 with _ | _
        · have H2 := Lib.hid h2
          clear h2
          go_wp2_with fail
          (with_reducible refine (impl_readDecimal D _ HZ2.out).mono ?_)
          rintro e w3 ⟨rfl, rfl⟩
          rw [H2.out]
          go_wp2_with fail
          go_ret2
          exact ⟨rfl, HBW.out⟩
        have H2 := Lib.hid h2
        clear h2
        obtain ⟨n, hn⟩ : ∃ n, (rdF D).1 = n := ⟨_, rfl⟩
        rw [hn] at nb
        have HN := Lib.hid hn
        clear hn
        by_cases n0 : n < 0
        · go_wp2_with fail
          (with_reducible refine (impl_readDecimal D _ HZ2.out).mono ?_)
          rintro e w3 ⟨rfl, rfl⟩
          rw [H2.out, HN.out]
          go_wp2_with fail
          go_ret2
          exact ⟨rfl, HBW.out⟩
        have n0' : decide (n < 0) = false := decide_eq_false n0
        rcases h3 : isVal n with _ | _
        · have H3 := Lib.hid h3
          clear h3
          go_wp2_with fail
          (with_reducible refine (impl_readDecimal D _ HZ2.out).mono ?_)
          rintro e w3 ⟨rfl, rfl⟩
          rw [H2.out, HN.out]
          go_wp2_with fail
          (with_reducible refine (impl_isValue H3.out _).mono ?_)
          rintro e w4 ⟨rfl, rfl⟩
          go_wp2_with fail
          go_ret2
          exact ⟨rfl, HBW.out⟩
        have n1 := inB_t h3
        have H3 := Lib.hid h3
        have H4 := Lib.hid (show isVal (-n) = true by rw [isVal_neg]; exact h3)
        have e4 := eq_str (decide_eq_false (HNO.out (-n) H4.out))
        clear h3
        go_wp2_with fail
        (with_reducible refine (impl_readDecimal D _ HZ2.out).mono ?_)
        rintro e w3 ⟨rfl, rfl⟩
        rw [H2.out, HN.out]
        go_wp2_with fail
        (with_reducible refine (impl_isValue H3.out _).mono ?_)
        rintro e w4 ⟨rfl, rfl⟩
        go_wp2_with fail
        (with_reducible refine (impl_measure (-n) _ H4.out).mono ?_)
        rintro e w5 ⟨rfl, hb5⟩
        replace HBW := Lib.hid (HBW.out.trans (hb5.mono HBW.out.size))
        clear hb5
        go_wp2_with fail
        go_ret2
        exact ⟨rfl, HBW.out⟩
set_option maxHeartbeats 8000000 in
theorem impl_readMeasure_y (s : ByteArray) (v : Int) (w : World) (hv : isVal v = true) (hm : mesB v = s) :
    Calls Try.prog 116 #[.string s] w fun e w' => e = .returned (.tuple #[.int .i64 v, .bool true]) ∧ Below w.heap.size w w' := by
  obtain ⟨n, u, z0, z1, z2, k46, u0, u1, hcase⟩ := mes_cut hv
  rw [hm] at z0 k46 hcase
  have hs : s.size ≤ 1048576 := by omega
  have hs3 : 3 ≤ s.size := by omega
  have HN3 := Lib.hid z0
  have hsn : s.size - 2 = n := by omega
  have HN1 := Lib.hid hsn
  have HN2 := Lib.hid (show s.size - 1 = n + 1 by omega)
  clear z0 hsn
  have HUV := Lib.hid (show isVal u = true from inB_mk ⟨by omega, by omega⟩)
  have HVV0 := Lib.hid hv
  have g1 : decide ((s.size : Int) < 3) = false := decide_eq_false (by omega)
  have hd : (((s[s.size - 2]'(by omega)).toNat : Int) != 46) = false := by
    rw [bAt_get (by omega), HN1.out, k46]; rfl
  have HRD := Lib.hid (show rdF (decI u) = (u, true) by rw [rdF_n (neg_dec u), rdU_dec u0 u1 false (fun _ => rfl)])
  have q1 : IntKind.i64.wrap ((s.size : Int) - 2) = (s.size : Int) - 2 := IntWalk.i64_in _ (by omega)
  have q2 : ((s.size : Int) - 2).toNat = s.size - 2 := by omega
  have q3 : (0 : Int) ≤ (s.size : Int) - 2 := by omega
  have q4 : (s.size : Int) - 2 ≤ s.size := by omega
  have q5 : IntKind.i64.wrap ((s.size : Int) - 1) = (s.size : Int) - 1 := IntWalk.i64_in _ (by omega)
  have q6 : ((s.size : Int) - 1).toNat = s.size - 1 := by omega
  have q7 : (0 : Int) ≤ (s.size : Int) - 1 := by omega
  have q8 : (s.size : Int) - 1 ≤ s.size := by omega
  have hcat : ¬ 9223372036854775807 < (s.extract 0 (s.size - 2)).size + (s.extract (s.size - 1) s.size).size := by simp; omega
  have hz := mdg_size u1
  clear hv k46
  rcases hcase with ⟨v0, rfl, hcut, h45, _, _⟩ | ⟨v0, hu, hcut, h45, _, _, _⟩
  · have HVV := HVV0
    have HVM := Lib.hid hm
    have HC := Lib.hid (show s.extract 0 (s.size - 2) ++ s.extract (s.size - 1) s.size = mdg u by rw [HN1.out, HN2.out, HN3.out]; exact hcut)
    have hh := @mdg_head u
    have e45 := dgn (d := mdg u) (n := 45) (k := 45) (by omega) rfl (decide_eq_false (by omega))
    clear hm hcut h45
    go_enter Try.func116, Try.ntmps116
    go_wp2_with fail
    refine region_aft w (by kernel_rfl) (by kernel_rfl) (Below.refl _ _) ?_
    repeat (go_big_quiet_step (fail))
    refine wpQuiet_nil ?_
    rintro w1 ⟨⟨_, b1⟩, rfl⟩
    have HBW := Lib.hid b1
    go_upto_region 5 with fail
    rw [HC.out]
    go_wp2_with fail
    go_loop [4] (fun s4 => s4 = .string (decI u) ∨ (u < 10 ∧ s4 = .string (dgB 0 ++ decI u))) (fun s4 => sLen s4)
    case atStart => exact (mdg_start u0)
    case round =>
      rcases hrel with rfl | ⟨hu, rfl⟩
      · have s1 := decI_size13 (n := u) (by omega)
        have s2 := decI_pos u
        by_cases h1 : 1 < (decI u).size
        · have g2 : decide (1 < ((decI u).size : Int)) = true := decide_eq_true (by omega)
          have h48 : decide (bAt (decI u) 0 = 48) = false := decide_eq_false (fun h => by
            have := decI_lead (n := u) (by omega) rfl h
            omega)
          have e48 := dg48 s2 h48
          clear h48
          have HZ2 := Lib.hid (show (decI u).size ≤ maxLen by have := decI_size13 (n := u) (by omega); unfold maxLen; omega)
          go_wp2_with fail
          (with_reducible refine (impl_readDecimal (decI u) _ HZ2.out).mono ?_)
          rintro e w3 ⟨rfl, rfl⟩
          rw [HRD.out]
          have n0' : decide (u < 0) = false := decide_eq_false (by omega)
          go_wp2_with fail
          (with_reducible refine (impl_isValue HUV.out _).mono ?_)
          rintro e w4 ⟨rfl, rfl⟩
          go_wp2_with fail
          (with_reducible refine (impl_measure (u) _ HVV.out).mono ?_)
          rintro e w5 ⟨rfl, hb5⟩
          replace HBW := Lib.hid (HBW.out.trans (hb5.mono HBW.out.size))
          clear hb5
          have e4 := eq_str (decide_eq_true HVM.out)
          go_wp2_with fail
          go_ret2
          exact ⟨rfl, HBW.out⟩
        · have g2 : decide (1 < ((decI u).size : Int)) = false := decide_eq_false (by omega)
          have HZ2 := Lib.hid (show (decI u).size ≤ maxLen by have := decI_size13 (n := u) (by omega); unfold maxLen; omega)
          go_wp2_with fail
          (with_reducible refine (impl_readDecimal (decI u) _ HZ2.out).mono ?_)
          rintro e w3 ⟨rfl, rfl⟩
          rw [HRD.out]
          have n0' : decide (u < 0) = false := decide_eq_false (by omega)
          go_wp2_with fail
          (with_reducible refine (impl_isValue HUV.out _).mono ?_)
          rintro e w4 ⟨rfl, rfl⟩
          go_wp2_with fail
          (with_reducible refine (impl_measure (u) _ HVV.out).mono ?_)
          rintro e w5 ⟨rfl, hb5⟩
          replace HBW := Lib.hid (HBW.out.trans (hb5.mono HBW.out.size))
          clear hb5
          have e4 := eq_str (decide_eq_true HVM.out)
          go_wp2_with fail
          go_ret2
          exact ⟨rfl, HBW.out⟩
      · have hs2 : (dgB 0 ++ decI u).size = 2 := by rw [ByteArray.size_append, dgB_size, decI_small (by omega) hu, dgB_size]
        have g2 : decide (1 < ((dgB 0 ++ decI u).size : Int)) = true := decide_eq_true (by omega)
        have g3 : 1 < (dgB 0 ++ decI u).size := by omega
        have h48 : decide (bAt (dgB 0 ++ decI u) 0 = 48) = true := decide_eq_true (by rw [bAt_app_l (by rw [dgB_size]; omega), bAt_dg (by omega) (by omega)]; rfl)
        have e48 := dg48 (by omega) h48
        have HE := Lib.hid (show (dgB 0 ++ decI u).extract 1 2 = decI u by rw [← hs2]; exact ext_app_r rfl)
        have HSZ := Lib.hid (show (decI u).size = 1 by rw [decI_small (by omega) hu, dgB_size])
        have HS2 := Lib.hid hs2
        clear h48
        go_wp2_with fail
        go_round
        case rel => exact .inl (by rw [HE.out])
        case measure =>
          rw [HE.out]
          show sLen (.string (decI u)) < sLen (.string (dgB 0 ++ decI u))
          simp only [sLen, HSZ.out, HS2.out]
          omega
  · have HVV := Lib.hid (show isVal (-u) = true by rw [hu, Int.neg_neg]; exact HVV0.out)
    have HVM := Lib.hid (show mesB (-u) = s by rw [hu, Int.neg_neg]; exact hm)
    have HVE := Lib.hid (show v = -u by omega)
    have HC := Lib.hid (show s.extract 0 (s.size - 2) ++ s.extract (s.size - 1) s.size = minus ++ mdg u by rw [HN1.out, HN2.out, HN3.out]; exact hcut)
    have hms : (minus ++ mdg u).size = (mdg u).size + 1 := by rw [ByteArray.size_append, minus_size]; omega
    have e45 := dgn (d := minus ++ mdg u) (n := 45) (k := 45) (by omega) rfl (decide_eq_true (by rw [bAt_app_l (by rw [minus_size]; omega)]; rfl))
    have HE := Lib.hid (show (minus ++ mdg u).extract 1 ((mdg u).size + 1) = mdg u by rw [← hms]; exact tail_minus _)
    have hpos : 1 ≤ (minus ++ mdg u).size := by omega
    clear hm hcut h45 hu
    go_enter Try.func116, Try.ntmps116
    go_wp2_with fail
    refine region_aft w (by kernel_rfl) (by kernel_rfl) (Below.refl _ _) ?_
    repeat (go_big_quiet_step (fail))
    refine wpQuiet_nil ?_
    rintro w1 ⟨⟨_, b1⟩, rfl⟩
    have HBW := Lib.hid b1
    go_upto_region 5 with fail
    rw [HC.out]
    go_upto_region 8 with fail
    rw [HE.out]
    clear e45
    go_loop [4] (fun s4 => s4 = .string (decI u) ∨ (u < 10 ∧ s4 = .string (dgB 0 ++ decI u))) (fun s4 => sLen s4)
    case atStart => exact (mdg_start u0)
    case round =>
      rcases hrel with rfl | ⟨hu, rfl⟩
      · have s1 := decI_size13 (n := u) (by omega)
        have s2 := decI_pos u
        by_cases h1 : 1 < (decI u).size
        · have g2 : decide (1 < ((decI u).size : Int)) = true := decide_eq_true (by omega)
          have h48 : decide (bAt (decI u) 0 = 48) = false := decide_eq_false (fun h => by
            have := decI_lead (n := u) (by omega) rfl h
            omega)
          have e48 := dg48 s2 h48
          clear h48
          have HZ2 := Lib.hid (show (decI u).size ≤ maxLen by have := decI_size13 (n := u) (by omega); unfold maxLen; omega)
          go_wp2_with fail
          (with_reducible refine (impl_readDecimal (decI u) _ HZ2.out).mono ?_)
          rintro e w3 ⟨rfl, rfl⟩
          rw [HRD.out]
          have n0' : decide (u < 0) = false := decide_eq_false (by omega)
          go_wp2_with fail
          (with_reducible refine (impl_isValue HUV.out _).mono ?_)
          rintro e w4 ⟨rfl, rfl⟩
          go_wp2_with fail
          (with_reducible refine (impl_measure (-u) _ HVV.out).mono ?_)
          rintro e w5 ⟨rfl, hb5⟩
          replace HBW := Lib.hid (HBW.out.trans (hb5.mono HBW.out.size))
          clear hb5
          have e4 := eq_str (decide_eq_true HVM.out)
          go_wp2_with fail
          go_ret2
          exact ⟨by rw [HVE.out]; rfl, HBW.out⟩
        · have g2 : decide (1 < ((decI u).size : Int)) = false := decide_eq_false (by omega)
          have HZ2 := Lib.hid (show (decI u).size ≤ maxLen by have := decI_size13 (n := u) (by omega); unfold maxLen; omega)
          go_wp2_with fail
          (with_reducible refine (impl_readDecimal (decI u) _ HZ2.out).mono ?_)
          rintro e w3 ⟨rfl, rfl⟩
          rw [HRD.out]
          have n0' : decide (u < 0) = false := decide_eq_false (by omega)
          go_wp2_with fail
          (with_reducible refine (impl_isValue HUV.out _).mono ?_)
          rintro e w4 ⟨rfl, rfl⟩
          go_wp2_with fail
          (with_reducible refine (impl_measure (-u) _ HVV.out).mono ?_)
          rintro e w5 ⟨rfl, hb5⟩
          replace HBW := Lib.hid (HBW.out.trans (hb5.mono HBW.out.size))
          clear hb5
          have e4 := eq_str (decide_eq_true HVM.out)
          go_wp2_with fail
          go_ret2
          exact ⟨by rw [HVE.out]; rfl, HBW.out⟩
      · have hs2 : (dgB 0 ++ decI u).size = 2 := by rw [ByteArray.size_append, dgB_size, decI_small (by omega) hu, dgB_size]
        have g2 : decide (1 < ((dgB 0 ++ decI u).size : Int)) = true := decide_eq_true (by omega)
        have g3 : 1 < (dgB 0 ++ decI u).size := by omega
        have h48 : decide (bAt (dgB 0 ++ decI u) 0 = 48) = true := decide_eq_true (by rw [bAt_app_l (by rw [dgB_size]; omega), bAt_dg (by omega) (by omega)]; rfl)
        have e48 := dg48 (by omega) h48
        have HE := Lib.hid (show (dgB 0 ++ decI u).extract 1 2 = decI u by rw [← hs2]; exact ext_app_r rfl)
        have HSZ := Lib.hid (show (decI u).size = 1 by rw [decI_small (by omega) hu, dgB_size])
        have HS2 := Lib.hid hs2
        clear h48
        go_wp2_with fail
        go_round
        case rel => exact .inl (by rw [HE.out])
        case measure =>
          rw [HE.out]
          show sLen (.string (decI u)) < sLen (.string (dgB 0 ++ decI u))
          simp only [sLen, HSZ.out, HS2.out]
          omega
set_option maxHeartbeats 8000000 in
theorem spec_ReadMeasure_n (s : ByteArray) (w : World) (hs : s.size ≤ 1048576) (hno : ∀ v, isVal v = true → mesB v ≠ s) :
    Calls Try.prog 85 #[.string s] w fun e w' => e = .returned (.tuple #[.int .i64 0, .int .i64 6]) ∧ Below w.heap.size w w' := by
  have HNO := Lib.hid hno
  clear hno
  have q1 : IntKind.i64.wrap ((s.size : Int) - 2) = (s.size : Int) - 2 := IntWalk.i64_in _ (by omega)
  by_cases h3 : s.size < 3
  · have g1 : decide ((s.size : Int) - 2 < 1) = true := decide_eq_true (by omega)
    go_enter Try.func85, Try.ntmps85
    go_wp2_with fail
    go_ret2
    exact ⟨rfl, by (repeat (first | with_reducible exact Below.refl _ _ | with_reducible assumption | ((with_reducible refine Bw.set ?_ ?_); rotate_left; focus omega) | ((with_reducible refine Bw.al ?_ ?_); rotate_left; focus (first | omega | (simp; done) | (simp; omega))) | with_reducible refine Below.drew ?_ | with_reducible refine Bw.dr ?_ _))⟩
  have g1 : decide ((s.size : Int) - 2 < 1) = false := decide_eq_false (by omega)
  have q2 : ((s.size : Int) - 2).toNat = s.size - 2 := by omega
  have q3 : (0 : Int) ≤ (s.size : Int) - 2 := by omega
  have q4 : (s.size : Int) - 2 ≤ s.size := by omega
  have q4' : (s.size : Int) - 2 < s.size := by omega
  have q5 : IntKind.i64.wrap ((s.size : Int) - 2 + 1) = (s.size : Int) - 1 := by rw [show (s.size : Int) - 2 + 1 = (s.size : Int) - 1 by omega]; exact IntWalk.i64_in _ (by omega)
  have q6 : ((s.size : Int) - 1).toNat = s.size - 1 := by omega
  have q7 : (0 : Int) ≤ (s.size : Int) - 1 := by omega
  have q8 : (s.size : Int) - 1 ≤ s.size := by omega
  rcases hd : (((s[s.size - 2]'(by omega)).toNat : Int) != 46) with _ | _
  rotate_left
  · go_enter Try.func85, Try.ntmps85
    go_wp2_with fail
    go_ret2
    exact ⟨rfl, by (repeat (first | with_reducible exact Below.refl _ _ | with_reducible assumption | ((with_reducible refine Bw.set ?_ ?_); rotate_left; focus omega) | ((with_reducible refine Bw.al ?_ ?_); rotate_left; focus (first | omega | (simp; done) | (simp; omega))) | with_reducible refine Below.drew ?_ | with_reducible refine Bw.dr ?_ _))⟩
  rcases h45 : decide (bAt s 0 = 45) with _ | _
  · have e45 := dgn (n := 45) (k := 45) (by omega) rfl h45
    clear h45
    have HZ1 := Lib.hid (show (s.extract 0 (s.size - 2)).size ≤ maxLen by simp; unfold maxLen; omega)
    have HZ2 := Lib.hid (show (s.extract (s.size - 1) s.size).size ≤ maxLen by simp; unfold maxLen; omega)
    have qf : (0 : Int) ≤ (s.size : Int) - 2 := by omega
    obtain ⟨x, hx⟩ : ∃ x, vlF (s.extract 0 (s.size - 2)) = x := ⟨_, rfl⟩
    obtain ⟨y, hy⟩ : ∃ y, vlF (s.extract (s.size - 1) s.size) = y := ⟨_, rfl⟩
    obtain ⟨x, o1⟩ := x
    obtain ⟨y, o2⟩ := y
    have HX := Lib.hid hx
    have HY := Lib.hid hy
    clear hx hy
    obtain ⟨N, hN⟩ : ∃ N, wrap64 (wrap64 (10 * x) + y) = N := ⟨_, rfl⟩
    have HV := Lib.hid hN
    clear hN
    go_enter Try.func85, Try.ntmps85
    go_upto_region 7 with fail
    go_wp2_with fail
    (with_reducible refine (spec_Value _ _ HZ1.out).mono ?_)
    rintro e w1 ⟨rfl, hb1⟩
    rw [HX.out]
    have HBW := Lib.hid hb1
    clear hb1
    go_wp2_with fail
    (with_reducible refine (spec_Value _ _ HZ2.out).mono ?_)
    rintro e w2 ⟨rfl, hb2⟩
    rw [HY.out]
    replace HBW := Lib.hid (HBW.out.trans (hb2.mono HBW.out.size))
    clear hb2
    rcases o1 with _ | _
    · go_wp2_with fail
      go_ret2
      exact ⟨rfl, HBW.out⟩
    rcases o2 with _ | _
    · go_wp2_with fail
      go_ret2
      exact ⟨rfl, HBW.out⟩
    rcases h3 : isVal N with _ | _
    · have H3 := Lib.hid h3
      clear h3
      go_wp2_with fail
      rw [HV.out]
      (with_reducible refine (spec_Is H3.out _).mono ?_)
      rintro e w4 ⟨rfl, rfl⟩
      go_wp2_with fail
      go_ret2
      exact ⟨rfl, HBW.out⟩
    have H3 := Lib.hid h3
    have e4 := eq_str (decide_eq_false (HNO.out N h3))
    clear h3
    go_wp2_with fail
    rw [HV.out]
    (with_reducible refine (spec_Is H3.out _).mono ?_)
    rintro e w4 ⟨rfl, rfl⟩
    go_wp2_with fail
    (with_reducible refine (spec_Measure N _ H3.out).mono ?_)
    rintro e w5 ⟨rfl, hb5⟩
    replace HBW := Lib.hid (HBW.out.trans (hb5.mono HBW.out.size))
    clear hb5
    go_wp2_with fail
    go_ret2
    exact ⟨rfl, HBW.out⟩
  · have e45 := dgn (n := 45) (k := 45) (by omega) rfl h45
    clear h45
    have HZ1 := Lib.hid (show (s.extract 1 (s.size - 2)).size ≤ maxLen by simp; unfold maxLen; omega)
    have HZ2 := Lib.hid (show (s.extract (s.size - 1) s.size).size ≤ maxLen by simp; unfold maxLen; omega)
    have qf : (1 : Int) ≤ (s.size : Int) - 2 := by omega
    obtain ⟨x, hx⟩ : ∃ x, vlF (s.extract 1 (s.size - 2)) = x := ⟨_, rfl⟩
    obtain ⟨y, hy⟩ : ∃ y, vlF (s.extract (s.size - 1) s.size) = y := ⟨_, rfl⟩
    obtain ⟨x, o1⟩ := x
    obtain ⟨y, o2⟩ := y
    have HX := Lib.hid hx
    have HY := Lib.hid hy
    clear hx hy
    obtain ⟨M, hN⟩ : ∃ N, wrap64 (-wrap64 (wrap64 (10 * x) + y)) = N := ⟨_, rfl⟩
    have HV := Lib.hid hN
    clear hN
    go_enter Try.func85, Try.ntmps85
    go_upto_region 7 with fail
    go_wp2_with fail
    (with_reducible refine (spec_Value _ _ HZ1.out).mono ?_)
    rintro e w1 ⟨rfl, hb1⟩
    rw [HX.out]
    have HBW := Lib.hid hb1
    clear hb1
    go_wp2_with fail
    (with_reducible refine (spec_Value _ _ HZ2.out).mono ?_)
    rintro e w2 ⟨rfl, hb2⟩
    rw [HY.out]
    replace HBW := Lib.hid (HBW.out.trans (hb2.mono HBW.out.size))
    clear hb2
    rcases o1 with _ | _
    · go_wp2_with fail
      go_ret2
      exact ⟨rfl, HBW.out⟩
    rcases o2 with _ | _
    · go_wp2_with fail
      go_ret2
      exact ⟨rfl, HBW.out⟩
    rcases h3 : isVal M with _ | _
    · have H3 := Lib.hid h3
      clear h3
      go_wp2_with fail
      rw [HV.out]
      (with_reducible refine (spec_Is H3.out _).mono ?_)
      rintro e w4 ⟨rfl, rfl⟩
      go_wp2_with fail
      go_ret2
      exact ⟨rfl, HBW.out⟩
    have H3 := Lib.hid h3
    have e4 := eq_str (decide_eq_false (HNO.out M h3))
    clear h3
    go_wp2_with fail
    rw [HV.out]
    (with_reducible refine (spec_Is H3.out _).mono ?_)
    rintro e w4 ⟨rfl, rfl⟩
    go_wp2_with fail
    (with_reducible refine (spec_Measure M _ H3.out).mono ?_)
    rintro e w5 ⟨rfl, hb5⟩
    replace HBW := Lib.hid (HBW.out.trans (hb5.mono HBW.out.size))
    clear hb5
    go_wp2_with fail
    go_ret2
    exact ⟨rfl, HBW.out⟩
set_option maxHeartbeats 8000000 in
theorem spec_ReadMeasure_y (s : ByteArray) (v : Int) (w : World) (hv : isVal v = true) (hm : mesB v = s) :
    Calls Try.prog 85 #[.string s] w fun e w' => e = .returned (.tuple #[.int .i64 v, .int .i64 0]) ∧ Below w.heap.size w w' := by
  obtain ⟨n, u, z0, z1, z2, k46, u0, u1, hcase⟩ := mes_cut hv
  rw [hm] at z0 k46 hcase
  have hs : s.size ≤ 1048576 := by omega
  have hs3 : 3 ≤ s.size := by omega
  have HN3 := Lib.hid z0
  have hsn : s.size - 2 = n := by omega
  have HN1 := Lib.hid hsn
  have HN2 := Lib.hid (show s.size - 1 = n + 1 by omega)
  clear z0 hsn
  have HVV0 := Lib.hid hv
  have HV1 := Lib.hid (vlF_dec (n := u / 10) (by omega) (by omega))
  have HV2 := Lib.hid (vlF_dec (n := u % 10) (by omega) (by omega))
  have HZ1 := Lib.hid (show (decI (u / 10)).size ≤ maxLen by have := decI_size13 (n := u / 10) (by omega); unfold maxLen; omega)
  have HZ2 := Lib.hid (show (decI (u % 10)).size ≤ maxLen by have := decI_size13 (n := u % 10) (by omega); unfold maxLen; omega)
  have r1 : IntKind.i64.wrap (10 * (u / 10)) = 10 * (u / 10) := IntWalk.i64_in _ (by omega)
  have r2 : IntKind.i64.wrap (10 * (u / 10) + u % 10) = u := by rw [show 10 * (u / 10) + u % 10 = u by omega]; exact IntWalk.i64_in _ (by omega)
  have r3 : IntKind.i64.wrap (-u) = -u := IntWalk.i64_in _ (by omega)
  have q1 : IntKind.i64.wrap ((s.size : Int) - 2) = (s.size : Int) - 2 := IntWalk.i64_in _ (by omega)
  have g1 : decide ((s.size : Int) - 2 < 1) = false := decide_eq_false (by omega)
  have q2 : ((s.size : Int) - 2).toNat = s.size - 2 := by omega
  have q3 : (0 : Int) ≤ (s.size : Int) - 2 := by omega
  have q4 : (s.size : Int) - 2 ≤ s.size := by omega
  have q4' : (s.size : Int) - 2 < s.size := by omega
  have q5 : IntKind.i64.wrap ((s.size : Int) - 2 + 1) = (s.size : Int) - 1 := by rw [show (s.size : Int) - 2 + 1 = (s.size : Int) - 1 by omega]; exact IntWalk.i64_in _ (by omega)
  have q6 : ((s.size : Int) - 1).toNat = s.size - 1 := by omega
  have q7 : (0 : Int) ≤ (s.size : Int) - 1 := by omega
  have q8 : (s.size : Int) - 1 ≤ s.size := by omega
  have hd : (((s[s.size - 2]'(by omega)).toNat : Int) != 46) = false := by
    rw [bAt_get (by omega), HN1.out, k46]; rfl
  clear hv k46
  rcases hcase with ⟨v0, rfl, _, h45, hx1, hx2⟩ | ⟨v0, hu, _, h45, _, hx1, hx2⟩
  · have HVV := HVV0
    have HVM := Lib.hid hm
    clear hm
    have e45 := dgn (n := 45) (k := 45) (by omega) rfl (decide_eq_false h45)
    have HX1 := Lib.hid (show s.extract 0 (s.size - 2) = decI (u / 10) by rw [HN1.out]; exact hx1)
    have HX2 := Lib.hid (show s.extract (s.size - 1) s.size = decI (u % 10) by rw [HN2.out, HN3.out]; exact hx2)
    have qf : (0 : Int) ≤ (s.size : Int) - 2 := by omega
    clear h45 hx1 hx2
    go_enter Try.func85, Try.ntmps85
    go_upto_region 7 with fail
    go_wp2_with fail
    rw [HX1.out]
    (with_reducible refine (spec_Value _ _ HZ1.out).mono ?_)
    rintro e w1 ⟨rfl, hb1⟩
    rw [HV1.out]
    have HBW := Lib.hid hb1
    clear hb1
    go_wp2_with fail
    rw [HX2.out]
    (with_reducible refine (spec_Value _ _ HZ2.out).mono ?_)
    rintro e w2 ⟨rfl, hb2⟩
    rw [HV2.out]
    replace HBW := Lib.hid (HBW.out.trans (hb2.mono HBW.out.size))
    clear hb2
    go_wp2_with fail
    (with_reducible refine (spec_Is HVV.out _).mono ?_)
    rintro e w4 ⟨rfl, rfl⟩
    go_wp2_with fail
    (with_reducible refine (spec_Measure u _ HVV.out).mono ?_)
    rintro e w5 ⟨rfl, hb5⟩
    replace HBW := Lib.hid (HBW.out.trans (hb5.mono HBW.out.size))
    clear hb5
    have e4 := eq_str (decide_eq_true HVM.out)
    go_wp2_with fail
    go_ret2
    exact ⟨rfl, HBW.out⟩
  · have HVV := Lib.hid (show isVal (-u) = true by rw [hu, Int.neg_neg]; exact HVV0.out)
    have HVM := Lib.hid (show mesB (-u) = s by rw [hu, Int.neg_neg]; exact hm)
    have HVE := Lib.hid (show v = -u by omega)
    clear hm
    have e45 := dgn (n := 45) (k := 45) (by omega) rfl (decide_eq_true h45)
    have HX1 := Lib.hid (show s.extract 1 (s.size - 2) = decI (u / 10) by rw [HN1.out]; exact hx1)
    have HX2 := Lib.hid (show s.extract (s.size - 1) s.size = decI (u % 10) by rw [HN2.out, HN3.out]; exact hx2)
    have qf : (1 : Int) ≤ (s.size : Int) - 2 := by omega
    clear h45 hx1 hx2 hu
    go_enter Try.func85, Try.ntmps85
    go_upto_region 7 with fail
    go_wp2_with fail
    rw [HX1.out]
    (with_reducible refine (spec_Value _ _ HZ1.out).mono ?_)
    rintro e w1 ⟨rfl, hb1⟩
    rw [HV1.out]
    have HBW := Lib.hid hb1
    clear hb1
    go_wp2_with fail
    rw [HX2.out]
    (with_reducible refine (spec_Value _ _ HZ2.out).mono ?_)
    rintro e w2 ⟨rfl, hb2⟩
    rw [HV2.out]
    replace HBW := Lib.hid (HBW.out.trans (hb2.mono HBW.out.size))
    clear hb2
    go_wp2_with fail
    (with_reducible refine (spec_Is HVV.out _).mono ?_)
    rintro e w4 ⟨rfl, rfl⟩
    go_wp2_with fail
    (with_reducible refine (spec_Measure (-u) _ HVV.out).mono ?_)
    rintro e w5 ⟨rfl, hb5⟩
    replace HBW := Lib.hid (HBW.out.trans (hb5.mono HBW.out.size))
    clear hb5
    have e4 := eq_str (decide_eq_true HVM.out)
    go_wp2_with fail
    go_ret2
    exact ⟨by rw [HVE.out]; rfl, HBW.out⟩
set_option maxHeartbeats 1000000 in
theorem impl_ReadMeasure_n (s : ByteArray) (w : World) (hs : s.size ≤ 1048576) (hno : ∀ v, isVal v = true → mesB v ≠ s) :
    Calls Try.prog 84 #[.string s] w fun e w' => e = .returned (.tuple #[.int .i64 0, .int .i64 6]) ∧ Below w.heap.size w w' := by
  go_enter Try.func84, Try.ntmps84
  go_wp2_with fail
  (with_reducible refine (impl_readMeasure_n s _ hs hno).mono ?_)
  rintro e w1 ⟨rfl, hb1⟩
  go_wp2_with fail
  go_ret2
  exact ⟨rfl, hb1⟩
set_option maxHeartbeats 1000000 in
theorem impl_ReadMeasure_y (s : ByteArray) (v : Int) (w : World) (hv : isVal v = true) (hm : mesB v = s) :
    Calls Try.prog 84 #[.string s] w fun e w' => e = .returned (.tuple #[.int .i64 v, .int .i64 0]) ∧ Below w.heap.size w w' := by
  go_enter Try.func84, Try.ntmps84
  go_wp2_with fail
  (with_reducible refine (impl_readMeasure_y s v _ hv hm).mono ?_)
  rintro e w1 ⟨rfl, hb1⟩
  go_wp2_with fail
  go_ret2
  exact ⟨rfl, hb1⟩

end Go.Proofs.Ytpejbmfapdocaaa
