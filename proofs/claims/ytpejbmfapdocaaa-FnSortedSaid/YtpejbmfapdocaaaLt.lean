/- ListText of the program and the reference. Conditions: those that each theorem names. -/
import Derived.Test.YtpejbmfapdocaaaOwn
import Derived.Test.YtpejbmfapdocaaaWt
import Derived.Test.YtpejbmfapdocaaaNum
import Derived.Test.YtpejbmfapdocaaaMes
namespace Go.Proofs.Ytpejbmfapdocaaa
open Go.RowKit

def allV (xs : List Int) : Bool := (List.range xs.length).all fun i => isVal (xs.getD i 0)
theorem allV_t {xs : List Int} (h : ∀ j, j < xs.length → isVal (xs.getD j 0) = true) : allV xs = true := by
  simp only [allV, List.all_eq_true, List.mem_range]
  exact h
theorem allV_get {xs : List Int} (h : allV xs = true) {j : Nat} (hj : j < xs.length) : isVal (xs.getD j 0) = true := by
  simp only [allV, List.all_eq_true, List.mem_range] at h
  exact h j hj
theorem allV_f {xs : List Int} {j : Nat} (hj : j < xs.length) (h : isVal (xs.getD j 0) = false) : allV xs = false := by
  rw [Bool.eq_false_iff]
  intro k
  rw [allV_get k hj] at h
  cases h
theorem allV_bd {xs : List Int} (h : allV xs = true) {j : Nat} (hj : j < xs.length) : -1000000000000 ≤ xs.getD j 0 ∧ xs.getD j 0 ≤ 1000000000000 := inB_t (allV_get h hj)
def vcF (xs : List Int) : Int := if allV xs then (if 60 < xs.length then 3 else 0) else 2
/-- The numbers as texts. -/
def nts (xs : List Int) : List ByteArray := xs.map numB
theorem nts_len (xs : List Int) : (nts xs).length = xs.length := by simp [nts]
theorem nts_at {xs : List Int} {k : Nat} (hk : k < xs.length) : sAt (nts xs) k = numB (xs.getD k 0) := by simp [sAt, nts, hk]
theorem nts_size {xs : List Int} (h : allV xs = true) (k : Nat) : (sAt (nts xs) k).size ≤ 20 := by
  rcases Nat.lt_or_ge k xs.length with hk | hk
  · rw [nts_at hk]
    have hb := allV_bd h hk
    rcases Int.lt_or_le (xs.getD k 0) 0 with h0 | h0
    · have := decB_size 13 (-(xs.getD k 0)).toNat (by omega)
      rw [numB_n h0, ByteArray.size_append, decI]
      have e : minus.size = 1 := rfl
      omega
    · have := decB_size 13 (xs.getD k 0).toNat (by omega)
      rw [numB_p h0, decI]
      omega
  · simp [sAt, nts, List.getD_eq_getElem?_getD, List.getElem?_eq_none hk]
def ltF (xs : List Int) : ByteArray × Int :=
  if allV xs then (if 60 < xs.length then (ByteArray.empty, 3) else if xs.length = 0 then (dash, 0) else (joinB (nts xs) comma xs.length, 0)) else (ByteArray.empty, 2)
theorem ltF_n {xs : List Int} (h : allV xs = false) : ltF xs = (ByteArray.empty, 2) := by rw [ltF, h]; rfl
theorem ltF_l {xs : List Int} (h : allV xs = true) (h2 : 60 < xs.length) : ltF xs = (ByteArray.empty, 3) := by rw [ltF, if_pos h, if_pos h2]
theorem ltF_0 {xs : List Int} (h : allV xs = true) (h2 : xs.length = 0) : ltF xs = (dash, 0) := by rw [ltF, if_pos h, if_neg (by omega), if_pos h2]
theorem ltF_y {xs : List Int} (h : allV xs = true) (h2 : ¬ 60 < xs.length) (h3 : xs.length ≠ 0) : ltF xs = (joinB (nts xs) comma xs.length, 0) := by rw [ltF, if_pos h, if_neg h2, if_neg h3]
theorem take_snoc {α : Type} {xs : List α} {d : α} {k : Nat} (hk : k < xs.length) : xs.take (k + 1) = xs.take k ++ [xs.getD k d] := by
  rw [List.take_add_one, List.getElem?_eq_getElem hk]
  simp [hk]

set_option maxHeartbeats 1000000 in
theorem impl_areValues (A : Option Addr) (c : Nat) (xs : List Int) (w : World) (hm : xs.length ≤ maxLen) (hr : Rd w w.heap.size A (iv xs)) :
    Calls Try.prog 100 #[.slice A xs.length c] w fun e w' => e = .returned (.bool (allV xs)) ∧ w = w' := by
  have HR := Lib.hid hr
  unfold maxLen at hm
  clear hr
  go_enter Try.func100, Try.ntmps100
  go_wp2_with fail
  go_loop [7, 4] (fun s7 _ => ∃ k : Nat, k ≤ xs.length ∧ s7 = .int .i64 k ∧ ∀ j, j < k → isVal (xs.getD j 0) = true) (fun s7 _ => xs.length - (intOf s7).toNat)
  case atStart => exact ⟨0, Nat.zero_le _, rfl, fun j h => absurd h (by omega)⟩
  case round =>
    obtain ⟨k, hk, rfl, hok⟩ := hrel
    have HO := Lib.hid hok
    clear hok
    by_cases hlt : k < xs.length
    · obtain ⟨ad, rfl, ha⟩ := HR.out.int hlt
      generalize hx : xs.getD k 0 = x at *
      have HX := Lib.hid hx
      clear hx
      rcases h1 : isVal x with _ | _
      · have H1 := Lib.hid h1
        clear h1
        go_wp2_with fail
        refine (impl_isValue H1.out _).mono ?_
        rintro e w1 ⟨rfl, rfl⟩
        go_wp2_with fail
        go_ret
        exact ⟨retb (by rw [allV_f hlt (by rw [HX.out]; exact H1.out)]), rfl⟩
      · have H1 := Lib.hid h1
        clear h1
        go_wp2_with fail
        refine (impl_isValue H1.out _).mono ?_
        rintro e w1 ⟨rfl, rfl⟩
        go_wp2_with fail
        go_round
        case rel =>
          refine ⟨k + 1, by omega, by go_num, fun j hj => ?_⟩
          by_cases e : j = k
          · rw [e, HX.out]; exact H1.out
          · exact HO.out j (by omega)
        case measure => simp [intOf]; omega
    · obtain rfl : k = xs.length := by omega
      go_wp2_with fail
      go_ret
      exact ⟨retb (by rw [allV_t HO.out]), rfl⟩
set_option maxHeartbeats 1000000 in
theorem spec_Values (A : Option Addr) (c : Nat) (xs : List Int) (w : World) (hm : xs.length ≤ maxLen) (hr : Rd w w.heap.size A (iv xs)) :
    Calls Try.prog 102 #[.slice A xs.length c] w fun e w' => e = .returned (.int .i64 (vcF xs)) ∧ w = w' := by
  have HR := Lib.hid hr
  unfold maxLen at hm
  clear hr
  go_enter Try.func102, Try.ntmps102
  go_wp2_with fail
  go_loop [3] (fun s3 => ∃ k : Nat, k ≤ xs.length ∧ s3 = .int .i64 k ∧ ∀ j, j < k → isVal (xs.getD j 0) = true) (fun s3 => xs.length - (intOf s3).toNat)
  case atStart => exact ⟨0, Nat.zero_le _, rfl, fun j h => absurd h (by omega)⟩
  case round =>
    obtain ⟨k, hk, rfl, hok⟩ := hrel
    have HO := Lib.hid hok
    clear hok
    by_cases hlt : k < xs.length
    · obtain ⟨ad, rfl, ha⟩ := HR.out.int hlt
      generalize hx : xs.getD k 0 = x at *
      have HX := Lib.hid hx
      clear hx
      rcases h1 : isVal x with _ | _
      · have H1 := Lib.hid h1
        clear h1
        go_wp2_with fail
        refine (spec_Is H1.out _).mono ?_
        rintro e w1 ⟨rfl, rfl⟩
        go_wp2_with fail
        go_ret
        exact ⟨reti (by rw [vcF, allV_f hlt (by rw [HX.out]; exact H1.out)]; rfl), rfl⟩
      · have H1 := Lib.hid h1
        clear h1
        go_wp2_with fail
        refine (spec_Is H1.out _).mono ?_
        rintro e w1 ⟨rfl, rfl⟩
        go_wp2_with fail
        go_round
        case rel =>
          refine ⟨k + 1, by omega, by go_num, fun j hj => ?_⟩
          by_cases e : j = k
          · rw [e, HX.out]; exact H1.out
          · exact HO.out j (by omega)
        case measure => simp [intOf]; omega
    · obtain rfl : k = xs.length := by omega
      have HA := Lib.hid (allV_t HO.out)
      by_cases h2 : 60 < xs.length
      all_goals
        go_wp2_with fail
        go_ret
      · exact ⟨reti (by rw [vcF, if_pos HA.out, if_pos h2]), rfl⟩
      · exact ⟨reti (by rw [vcF, if_pos HA.out, if_neg h2]), rfl⟩
set_option maxHeartbeats 2000000 in
theorem impl_numbersText (A : Option Addr) (c : Nat) (xs : List Int) (w : World) (hm : xs.length ≤ 60) (hv : allV xs = true) (hr : Rd w w.heap.size A (iv xs)) :
    Calls Try.prog 101 #[.slice A xs.length c] w fun e w' => e = .returned (.string (joinB (nts xs) comma xs.length)) ∧ Below w.heap.size w w' := by
  have HR := Lib.hid hr
  have HV := Lib.hid hv
  clear hr hv
  obtain ⟨i0, hi0, hz0, hz1, hz2⟩ := info_parts Try.infoT
  go_enter Try.func101, Try.ntmps101
  go_wp2_with fail
  go_loopw [8, 3, 5] (fun s8 s3 _ wr => ∃ (k : Nat) (v : Value), k ≤ xs.length ∧ s8 = .int .i64 k ∧ v = s3 ∧ wr.ownsRow w.heap.size 9 1 v k (sv (nts (xs.take k))) ∧ Below w.heap.size w wr) (fun s8 _ _ _ => xs.length - (intOf s8).toNat)
  case atStart => exact ⟨0, _, Nat.zero_le _, rfl, rfl, ⟨rfl, .inl ⟨rfl, rfl⟩⟩, by (repeat (first | with_reducible exact Below.refl _ _ | with_reducible assumption | ((with_reducible refine Bw.set ?_ ?_); rotate_left; focus omega) | ((with_reducible refine Bw.al ?_ ?_); rotate_left; focus (first | omega | (simp; done) | (simp; omega))) | with_reducible refine Below.drew ?_ | with_reducible refine Bw.dr ?_ _))⟩
  case round =>
    obtain ⟨k, v, hk, rfl, rfl, hown, hb⟩ := hrel
    have HOWN := Lib.hid hown
    have hz := hb.size
    clear hown
    by_cases hlt : k < xs.length
    · obtain ⟨ad, rfl, ha⟩ := (HR.out.keep hb).int hlt
      have hx := allV_bd HV.out hlt
      have HT := Lib.hid (take_snoc (d := 0) hlt)
      generalize xs.getD k 0 = x at *
      go_wp2_with fail
      (with_reducible refine (impl_decimal x _ (by omega) (by omega)).mono ?_)
      rintro e w2 ⟨rfl, hb2⟩
      have hz2' := hb2.size
      have hown2 := own_below HOWN.out hb2
      have HB2 := Lib.hid (hb.trans (hb2.mono hz))
      have ho := hown2
      clear hb2
      go_wp2_with (at_builtin; (refine wpList_append_lies _ rfl _ _ _ rfl w.heap.size 9 i0 _ 1 16 Try.underlying80 hi0 hz0 hz1 hz2 rfl (by omega) v k _ rfl (hown2.alloc _) ⟨w2.heap.size, 0, none⟩ 1 1 [.string (numB x)] rfl rfl (World.news_of_block (heap_alloc_new w2 _)) (by simp [Value.oneCell']) (by omega) (by unfold maxLen; omega) (by omega) (by simp; omega) (w2.heap.size + 1) (by simp) ?_; intro g' cap' w3 hown3 hgrow hat hlt'))
      have HW3 := Lib.hid hown3
      clear hown3 hown2
      go_roundw
      case rel =>
        refine ⟨k + 1, _, by omega, by go_num, rfl, ?_, below_own (w1 := w2.alloc _) ho (HB2.out.alloc (by omega) _) (by simp; omega) hgrow⟩
        rw [HT.out, nts, List.map_append, List.map_singleton, sv_snoc]
        exact HW3.out
      case measure => simp [intOf]; omega
    · obtain rfl : k = xs.length := by omega
      obtain ⟨A2, c2, rfl, hr2⟩ := own_read HOWN.out
      rw [List.take_length] at hr2
      have HR2 := Lib.hid hr2
      have HL := Lib.hid (nts_len xs)
      clear hr2
      go_wp2_with fail
      have hj := impl_join A2 c2 (nts xs) comma wr (by decide) (by rw [HL.out]; omega) (nts_size HV.out) HR2.out
      rw [HL.out] at hj
      refine hj.mono ?_
      rintro e w4 ⟨rfl, rfl⟩
      go_wp2_with fail
      go_ret
      exact ⟨rfl, hb⟩
set_option maxHeartbeats 2000000 in
theorem spec_JoinN (A : Option Addr) (c : Nat) (xs : List Int) (b : ByteArray) (w : World) (hb0 : b.size ≤ 4) (hm : xs.length ≤ 60) (hv : allV xs = true) (hr : Rd w w.heap.size A (iv xs)) :
    Calls Try.prog 152 #[.slice A xs.length c, .string b] w fun e w' => e = .returned (.string (joinB (nts xs) b xs.length)) ∧ Below w.heap.size w w' := by
  have HR := Lib.hid hr
  have HV := Lib.hid hv
  clear hr hv
  go_enter Try.func152, Try.ntmps152
  go_wp2_with fail
  go_loopw [6, 5] (fun s6 s5 wr => ∃ k : Nat, k ≤ xs.length ∧ s6 = .int .i64 k ∧ s5 = .string (joinB (nts xs) b k) ∧ Below w.heap.size w wr) (fun s6 _ _ => xs.length - (intOf s6).toNat)
  case atStart => exact ⟨0, Nat.zero_le _, rfl, rfl, by (repeat (first | with_reducible exact Below.refl _ _ | with_reducible assumption | ((with_reducible refine Bw.set ?_ ?_); rotate_left; focus omega) | ((with_reducible refine Bw.al ?_ ?_); rotate_left; focus (first | omega | (simp; done) | (simp; omega))) | with_reducible refine Below.drew ?_ | with_reducible refine Bw.dr ?_ _))⟩
  case round =>
    obtain ⟨k, hk, rfl, rfl, hb⟩ := hrel
    have hj := joinB_size hb0 (nts_size HV.out) k
    have hz := hb.size
    by_cases hlt : k < xs.length
    · obtain ⟨ad, rfl, ha⟩ := (HR.out.keep hb).int hlt
      have hx := allV_bd HV.out hlt
      have HX := Lib.hid (nts_at hlt)
      have hs := nts_size HV.out k
      rw [HX.out] at hs
      generalize xs.getD k 0 = x at *
      rcases Nat.eq_zero_or_pos k with h0 | h0
      · subst h0
        rw [Addr.add_zero'] at ha
        go_wp2_with fail
        (with_reducible refine (spec_Number x _ (by omega) (by omega)).mono ?_)
        rintro e w2 ⟨rfl, hb2⟩
        go_wp2_with fail
        go_roundw
        case rel => exact ⟨1, by omega, by go_num, by rw [joinB_0 HX.out], hb.trans (hb2.mono hz)⟩
        case measure => simp [intOf]; omega
      · go_wp2_with fail
        (with_reducible refine (spec_Number x _ (by omega) (by omega)).mono ?_)
        rintro e w2 ⟨rfl, hb2⟩
        go_wp2_with fail
        go_roundw
        case rel => exact ⟨k + 1, by omega, by go_num, by rw [joinB_s (by omega) HX.out], hb.trans (hb2.mono hz)⟩
        case measure => simp [intOf]; omega
    · obtain rfl : k = xs.length := by omega
      go_wp2_with fail
      go_ret
      exact ⟨rfl, hb⟩
/-- The text of a list of values: a dash for none. -/
def txF (xs : List Int) : ByteArray := if xs.length = 0 then dash else joinB (nts xs) comma xs.length
set_option maxHeartbeats 1000000 in
theorem spec_Text (A : Option Addr) (c : Nat) (xs : List Int) (w : World) (hm : xs.length ≤ 60) (hv : allV xs = true) (hr : Rd w w.heap.size A (iv xs)) :
    Calls Try.prog 103 #[.slice A xs.length c] w fun e w' => e = .returned (.string (txF xs)) ∧ Below w.heap.size w w' := by
  have HR := Lib.hid hr
  have HV := Lib.hid hv
  clear hr hv
  by_cases h3 : xs.length = 0
  · have HT := Lib.hid (show txF xs = dash by rw [txF, if_pos h3])
    have h3'' : xs.length < 1 := by omega
    clear h3
    go_enter Try.func103, Try.ntmps103
    go_wp2_with fail
    go_ret
    exact ⟨by rw [HT.out]; rfl, by (repeat (first | with_reducible exact Below.refl _ _ | with_reducible assumption | ((with_reducible refine Bw.set ?_ ?_); rotate_left; focus omega) | ((with_reducible refine Bw.al ?_ ?_); rotate_left; focus (first | omega | (simp; done) | (simp; omega))) | with_reducible refine Below.drew ?_ | with_reducible refine Bw.dr ?_ _))⟩
  · have HT := Lib.hid (show txF xs = joinB (nts xs) comma xs.length by rw [txF, if_neg h3])
    have h3' : 1 ≤ xs.length := by omega
    clear h3
    go_enter Try.func103, Try.ntmps103
    go_wp2_with fail
    refine (spec_JoinN _ _ _ _ _ (by decide) hm HV.out HR.out).mono ?_
    rintro e w2 ⟨rfl, hb2⟩
    go_wp2_with fail
    go_ret
    exact ⟨by rw [HT.out]; rfl, hb2⟩
set_option maxHeartbeats 1000000 in
theorem spec_ListText (A : Option Addr) (c : Nat) (xs : List Int) (w : World) (hm : xs.length ≤ maxLen) (hr : Rd w w.heap.size A (iv xs)) :
    Calls Try.prog 18 #[.slice A xs.length c] w fun e w' => e = .returned (.tuple #[.string (ltF xs).1, .int .i64 (ltF xs).2]) ∧ Below w.heap.size w w' := by
  have HR := Lib.hid hr
  have HM := Lib.hid hm
  clear hr hm
  rcases h1 : allV xs with _ | _
  · rw [ltF_n h1]
    have HC := Lib.hid (show vcF xs = 2 by rw [vcF, h1]; rfl)
    clear h1
    go_enter Try.func18, Try.ntmps18
    go_wp2_with fail
    refine (spec_Values _ _ _ _ HM.out HR.out).mono ?_
    rintro e w1 ⟨rfl, rfl⟩
    rw [HC.out]
    go_wp2_with fail
    go_ret2
    exact ⟨rfl, by (repeat (first | with_reducible exact Below.refl _ _ | with_reducible assumption | ((with_reducible refine Bw.set ?_ ?_); rotate_left; focus omega) | ((with_reducible refine Bw.al ?_ ?_); rotate_left; focus (first | omega | (simp; done) | (simp; omega))) | with_reducible refine Below.drew ?_ | with_reducible refine Bw.dr ?_ _))⟩
  by_cases h2 : 60 < xs.length
  · rw [ltF_l h1 h2]
    have HC := Lib.hid (show vcF xs = 3 by rw [vcF, if_pos h1, if_pos h2])
    clear h1
    go_enter Try.func18, Try.ntmps18
    go_wp2_with fail
    refine (spec_Values _ _ _ _ HM.out HR.out).mono ?_
    rintro e w1 ⟨rfl, rfl⟩
    rw [HC.out]
    go_wp2_with fail
    go_ret2
    exact ⟨rfl, by (repeat (first | with_reducible exact Below.refl _ _ | with_reducible assumption | ((with_reducible refine Bw.set ?_ ?_); rotate_left; focus omega) | ((with_reducible refine Bw.al ?_ ?_); rotate_left; focus (first | omega | (simp; done) | (simp; omega))) | with_reducible refine Below.drew ?_ | with_reducible refine Bw.dr ?_ _))⟩
  have HT := Lib.hid (show ltF xs = (txF xs, 0) by
    by_cases h3 : xs.length = 0
    · rw [ltF_0 h1 h3, txF, if_pos h3]
    · rw [ltF_y h1 h2 h3, txF, if_neg h3])
  have HC := Lib.hid (show vcF xs = 0 by rw [vcF, if_pos h1, if_neg h2])
  have H1 := Lib.hid h1
  clear h1
  go_enter Try.func18, Try.ntmps18
  go_wp2_with fail
  refine (spec_Values _ _ _ _ HM.out HR.out).mono ?_
  rintro e w1 ⟨rfl, rfl⟩
  rw [HC.out]
  go_wp2_with fail
  refine (spec_Text _ _ _ _ (by omega) H1.out HR.out).mono ?_
  rintro e w2 ⟨rfl, hb2⟩
  go_wp2_with fail
  go_ret2
  exact ⟨by rw [HT.out]; rfl, hb2⟩
set_option maxHeartbeats 1000000 in
theorem impl_ListText (A : Option Addr) (c : Nat) (xs : List Int) (w : World) (hm : xs.length ≤ maxLen) (hr : Rd w w.heap.size A (iv xs)) :
    Calls Try.prog 17 #[.slice A xs.length c] w fun e w' => e = .returned (.tuple #[.string (ltF xs).1, .int .i64 (ltF xs).2]) ∧ Below w.heap.size w w' := by
  have HR := Lib.hid hr
  have HM := Lib.hid hm
  unfold maxLen at hm
  clear hr
  rcases h1 : allV xs with _ | _
  · rw [ltF_n h1]
    have H1 := Lib.hid h1
    clear h1
    go_enter Try.func17, Try.ntmps17
    go_wp2_with fail
    refine (impl_areValues _ _ _ _ HM.out HR.out).mono ?_
    rintro e w1 ⟨rfl, rfl⟩
    rw [H1.out]
    go_wp2_with fail
    go_ret2
    exact ⟨rfl, by (repeat (first | with_reducible exact Below.refl _ _ | with_reducible assumption | ((with_reducible refine Bw.set ?_ ?_); rotate_left; focus omega) | ((with_reducible refine Bw.al ?_ ?_); rotate_left; focus (first | omega | (simp; done) | (simp; omega))) | with_reducible refine Below.drew ?_ | with_reducible refine Bw.dr ?_ _))⟩
  by_cases h2 : 60 < xs.length
  · rw [ltF_l h1 h2]
    have H1 := Lib.hid h1
    clear h1
    go_enter Try.func17, Try.ntmps17
    go_wp2_with fail
    refine (impl_areValues _ _ _ _ HM.out HR.out).mono ?_
    rintro e w1 ⟨rfl, rfl⟩
    rw [H1.out]
    go_wp2_with fail
    go_ret2
    exact ⟨rfl, by (repeat (first | with_reducible exact Below.refl _ _ | with_reducible assumption | ((with_reducible refine Bw.set ?_ ?_); rotate_left; focus omega) | ((with_reducible refine Bw.al ?_ ?_); rotate_left; focus (first | omega | (simp; done) | (simp; omega))) | with_reducible refine Below.drew ?_ | with_reducible refine Bw.dr ?_ _))⟩
  by_cases h3 : xs.length = 0
  · rw [ltF_0 h1 h3]
    have H1 := Lib.hid h1
    have h3'' : xs.length < 1 := by omega
    clear h1 h3
    go_enter Try.func17, Try.ntmps17
    go_wp2_with fail
    refine (impl_areValues _ _ _ _ HM.out HR.out).mono ?_
    rintro e w1 ⟨rfl, rfl⟩
    rw [H1.out]
    go_wp2_with fail
    go_ret2
    exact ⟨rfl, by (repeat (first | with_reducible exact Below.refl _ _ | with_reducible assumption | ((with_reducible refine Bw.set ?_ ?_); rotate_left; focus omega) | ((with_reducible refine Bw.al ?_ ?_); rotate_left; focus (first | omega | (simp; done) | (simp; omega))) | with_reducible refine Below.drew ?_ | with_reducible refine Bw.dr ?_ _))⟩
  · rw [ltF_y h1 h2 h3]
    have H1 := Lib.hid h1
    have h3' : 1 ≤ xs.length := by omega
    clear h1 h3
    go_enter Try.func17, Try.ntmps17
    go_wp2_with fail
    refine (impl_areValues _ _ _ _ HM.out HR.out).mono ?_
    rintro e w1 ⟨rfl, rfl⟩
    rw [H1.out]
    go_wp2_with fail
    refine (impl_numbersText _ _ _ _ (by omega) H1.out HR.out).mono ?_
    rintro e w2 ⟨rfl, hb2⟩
    go_wp2_with fail
    go_ret2
    exact ⟨rfl, hb2⟩

end Go.Proofs.Ytpejbmfapdocaaa
