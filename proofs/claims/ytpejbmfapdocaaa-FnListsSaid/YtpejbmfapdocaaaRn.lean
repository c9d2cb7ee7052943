/- ReadList of the program and the reference. Condition: the text has at most 1048576 bytes. -/
import Derived.Test.YtpejbmfapdocaaaRl
namespace Go.Proofs.Ytpejbmfapdocaaa
open Go.RowKit

def allN (ps : List ByteArray) : Bool := (List.range ps.length).all fun i => okS (sAt ps i)
theorem allN_t {ps : List ByteArray} (h : ∀ j, j < ps.length → okS (sAt ps j) = true) : allN ps = true := by
  simp only [allN, List.all_eq_true, List.mem_range]
  exact h
theorem allN_get {ps : List ByteArray} (h : allN ps = true) {j : Nat} (hj : j < ps.length) : okS (sAt ps j) = true := by
  simp only [allN, List.all_eq_true, List.mem_range] at h
  exact h j hj
theorem allN_f {ps : List ByteArray} {j : Nat} (hj : j < ps.length) (h : okS (sAt ps j) = false) : allN ps = false := by
  rw [Bool.eq_false_iff]
  intro k
  rw [allN_get k hj] at h
  cases h
/-- The texts' numbers. -/
def nums (ps : List ByteArray) : List Int := ps.map fun p => (sgF p).1
theorem nums_len (ps : List ByteArray) : (nums ps).length = ps.length := by simp [nums]
theorem nums_at {ps : List ByteArray} {k : Nat} (hk : k < ps.length) : (nums ps).getD k 0 = (sgF (sAt ps k)).1 := by simp [sAt, nums, hk]
theorem nums_snoc {ps : List ByteArray} {k : Nat} (hk : k < ps.length) : nums (ps.take (k + 1)) = nums (ps.take k) ++ [(sgF (sAt ps k)).1] := by
  rw [take_snoc (d := ByteArray.empty) hk, nums, List.map_append]
  rfl
def rlF (s : ByteArray) : List Int × Int := if s = dash then ([], 0) else if allN (splitB s 44) && decide ((splitB s 44).length ≤ 60) then (nums (splitB s 44), 0) else ([], 6)
theorem rlF_d {s : ByteArray} (h : s = dash) : rlF s = ([], 0) := by rw [rlF, if_pos h]
theorem rlF_n {s : ByteArray} (h : s ≠ dash) (h2 : allN (splitB s 44) = false ∨ 60 < (splitB s 44).length) : rlF s = ([], 6) := by
  rw [rlF, if_neg h, if_neg]
  rcases h2 with h2 | h2
  · simp [h2]
  · simp; intro _; omega
theorem rlF_y {s : ByteArray} (h : s ≠ dash) (h2 : allN (splitB s 44) = true) (h3 : ¬ 60 < (splitB s 44).length) : rlF s = (nums (splitB s 44), 0) := by
  rw [rlF, if_neg h, if_pos]
  simp [h2]; omega
theorem rlF_len (s : ByteArray) : (rlF s).1.length ≤ 60 := by
  unfold rlF
  split
  · simp
  · split
    · rename_i h
      simp only [Bool.and_eq_true, decide_eq_true_eq] at h
      rw [nums_len]
      exact h.2
    · simp
theorem own_le {w : World} {base base' n : Nat} {e : TypeId} {v : Value} {us : List Value} (h : w.ownsRow base e 1 v n us) (hb : base' ≤ base) : w.ownsRow base' e 1 v n us :=
  ⟨h.1, h.2.elim .inl fun ⟨g, cap, cur, hv, hg, r⟩ => .inr ⟨g, cap, cur, hv, Nat.le_trans hb hg, r⟩⟩
theorem okR_cases {p : ByteArray} {b : Bool} (h : okS p = b) : okR p = b := by rw [(ok_same p).1, h]
/-- Do all texts read as numbers? -/
def allS (ps : List ByteArray) : Bool := (List.range ps.length).all fun i => (sgF (sAt ps i)).2
theorem allS_t {ps : List ByteArray} (h : ∀ j, j < ps.length → (sgF (sAt ps j)).2 = true) : allS ps = true := by
  simp only [allS, List.all_eq_true, List.mem_range]
  exact h
theorem allS_get {ps : List ByteArray} (h : allS ps = true) {j : Nat} (hj : j < ps.length) : (sgF (sAt ps j)).2 = true := by
  simp only [allS, List.all_eq_true, List.mem_range] at h
  exact h j hj
theorem allS_f {ps : List ByteArray} {j : Nat} (hj : j < ps.length) (h : (sgF (sAt ps j)).2 = false) : allS ps = false := by
  rw [Bool.eq_false_iff]
  intro k
  rw [allS_get k hj] at h
  cases h
theorem allN_s {ps : List ByteArray} : allN ps = (allS ps && allV (nums ps)) := by
  rw [Bool.eq_iff_iff, Bool.and_eq_true]
  constructor
  · intro h
    refine ⟨allS_t fun j hj => ?_, allV_t fun j hj => ?_⟩
    · have := allN_get h hj
      simp only [okS, Bool.and_eq_true] at this
      exact this.1
    · rw [nums_len] at hj
      have := allN_get h hj
      simp only [okS, Bool.and_eq_true] at this
      rw [nums_at hj]
      exact this.2
  · rintro ⟨h1, h2⟩
    refine allN_t fun j hj => ?_
    simp only [okS, Bool.and_eq_true]
    refine ⟨allS_get h1 hj, ?_⟩
    rw [← nums_at hj]
    exact allV_get h2 (by rw [nums_len]; exact hj)
theorem sgF_le (s : ByteArray) : -1000000000000000000 ≤ (sgF s).1 ∧ (sgF s).1 ≤ 1000000000000000000 := by
  unfold sgF
  split
  · have := vlF_le (tailB s); simp only; omega
  · have := vlF_le s; omega
/-- What l01Numbers leaves. -/
def NumPost (w : World) (ps : List ByteArray) (out : List Int) (e : Ending) (w' : World) : Prop := ∃ v, e = .returned (.tuple #[v, .bool (allS ps)]) ∧ w'.ownsRow w.heap.size 2 1 v out.length (iv out) ∧ Below w.heap.size w w'
def nbF (ps : List ByteArray) : List Int := if allS ps then nums ps else []

set_option maxRecDepth 100000 in
set_option maxHeartbeats 4000000 in
theorem impl_ReadList (s : ByteArray) (w : World) (hs : s.size ≤ 1048576) : Calls Try.prog 20 #[.string s] w (OwnInts2 w (rlF s).1 (rlF s).2) := by
  obtain ⟨i0, hi0, hz0, hz1, hz2⟩ := info_parts Try.infoS
  rcases hd : decide (s = dash) with _ | _
  rotate_left
  · have e1 := eq_dash hd
    have e2 := eq_dash2 hd
    have HO := Lib.hid (rlF_d (of_decide_eq_true hd))
    clear hd
    go_enter Try.func20, Try.ntmps20
    go_wp2_with fail
    go_ret2
    exact ⟨.slice none 0 0, by rw [HO.out]; rfl, by rw [HO.out]; exact ⟨rfl, .inl ⟨rfl, rfl⟩⟩, by (repeat (first | with_reducible exact Below.refl _ _ | with_reducible assumption | ((with_reducible refine Bw.set ?_ ?_); rotate_left; focus omega) | ((with_reducible refine Bw.al ?_ ?_); rotate_left; focus (first | omega | (simp; done) | (simp; omega))) | with_reducible refine Below.drew ?_ | with_reducible refine Bw.dr ?_ _))⟩
  have e1 := eq_dash hd
  have e2 := eq_dash2 hd
  have HN := Lib.hid (fun h => rlF_n (of_decide_eq_false hd) h)
  have HY := Lib.hid (fun h => rlF_y (of_decide_eq_false hd) h)
  have HZ := Lib.hid (splitB_small s 44)
  have hl := (splitB_len s 44).2
  generalize rlF s = out at *
  clear hd
  go_enter Try.func20, Try.ntmps20
  go_wp2_with fail
  (with_reducible refine (impl_splitAt s 44 _ hs (by omega)).mono ?_)
  rintro e w1 ⟨v1, rfl, hown, hb1⟩
  obtain ⟨A1, c1, rfl, hr1⟩ := own_read hown
  have HR := Lib.hid hr1
  clear hown hr1
  generalize splitB s 44 = ps at *
  have hz1' := hb1.size
  by_cases h60 : 60 < ps.length
  · have HE := Lib.hid (HN.out (.inr h60))
    go_wp2_with fail
    go_ret2
    exact ⟨.slice none 0 0, by rw [HE.out]; rfl, by rw [HE.out]; exact ⟨rfl, .inl ⟨rfl, rfl⟩⟩, hb1⟩
  have B1 := Lib.hid hb1
  clear hb1
  go_wp2_with fail
  go_loopw [19, 5, 7, 8, 9] (fun s19 s5 _ _ _ wr => ∃ (k : Nat) (v : Value), k ≤ ps.length ∧ s19 = .int .i64 k ∧ v = s5 ∧ (∀ j, j < k → okS (sAt ps j) = true) ∧ wr.ownsRow w1.heap.size 2 1 v k (iv (nums (ps.take k))) ∧ Below w1.heap.size w1 wr) (fun s19 _ _ _ _ _ => ps.length - (intOf s19).toNat)
  case atStart => exact ⟨0, _, Nat.zero_le _, rfl, rfl, fun j h => absurd h (by omega), ⟨rfl, .inl ⟨rfl, rfl⟩⟩, by (repeat (first | with_reducible exact Below.refl _ _ | with_reducible assumption | ((with_reducible refine Bw.set ?_ ?_); rotate_left; focus omega) | ((with_reducible refine Bw.al ?_ ?_); rotate_left; focus (first | omega | (simp; done) | (simp; omega))) | with_reducible refine Below.drew ?_ | with_reducible refine Bw.dr ?_ _))⟩
  case round =>
    obtain ⟨k, v, hk, rfl, rfl, hok, hown, hb⟩ := hrel
    have HO := Lib.hid hok
    have HW := Lib.hid hown
    have HB := Lib.hid hb
    have hz := hb.size
    clear hok hown
    by_cases hlt : k < ps.length
    · obtain ⟨ad, rfl, ha⟩ := (HR.out.keep hb).str hlt
      clear hb
      have hsz := HZ.out k
      have HZ2 := Lib.hid (show (sAt ps k).size ≤ maxLen by unfold maxLen; omega)
      have HS := Lib.hid (nums_snoc hlt)
      generalize hx : sAt ps k = x at *
      have HX := Lib.hid hx
      clear hx
      have HSAME := Lib.hid (ok_same x)
      have hr := rdU_le (tailB x) true
      rcases h1 : okS x with _ | _
      · have HE := Lib.hid (HN.out (.inl (allN_f hlt (by rw [HX.out]; exact h1))))
        have h2 := okR_cases h1
        rcases h3 : (rdF x).2 with _ | _
        · have H3 := Lib.hid h3
          clear h1 h2 h3 hr
          go_wp2_with fail
          (with_reducible refine (impl_readDecimal x _ HZ2.out).mono ?_)
          rintro e w2 ⟨rfl, rfl⟩
          rw [H3.out]
          go_wp2_with fail
          go_ret2
          exact ⟨.slice none 0 0, by rw [HE.out]; rfl, by rw [HE.out]; exact ⟨rfl, .inl ⟨rfl, rfl⟩⟩, B1.out.trans (HB.out.mono hz1')⟩
        · have H3 := Lib.hid h3
          have H4 := Lib.hid (show isVal (rdF x).1 = false by simpa [okR, h3] using h2)
          clear h1 h2 h3 hr
          go_wp2_with fail
          (with_reducible refine (impl_readDecimal x _ HZ2.out).mono ?_)
          rintro e w2 ⟨rfl, rfl⟩
          rw [H3.out]
          go_wp2_with fail
          (with_reducible refine (impl_isValue H4.out _).mono ?_)
          rintro e w3 ⟨rfl, rfl⟩
          go_wp2_with fail
          go_ret2
          exact ⟨.slice none 0 0, by rw [HE.out]; rfl, by rw [HE.out]; exact ⟨rfl, .inl ⟨rfl, rfl⟩⟩, B1.out.trans (HB.out.mono hz1')⟩
      · have h2 := okR_cases h1
        simp only [okR, Bool.and_eq_true] at h2
        have H1 := Lib.hid h1
        have H3 := Lib.hid h2.1
        have H4 := Lib.hid h2.2
        have H5 := Lib.hid (HSAME.out.2 h1)
        clear h1 h2 hr
        go_wp2_with fail
        (with_reducible refine (impl_readDecimal x _ HZ2.out).mono ?_)
        rintro e w2 ⟨rfl, rfl⟩
        rw [H3.out]
        go_wp2_with fail
        (with_reducible refine (impl_isValue H4.out _).mono ?_)
        rintro e w3 ⟨rfl, rfl⟩
        go_wp2_with (at_builtin; (refine wpList_append_lies _ rfl _ _ _ rfl w1.heap.size 2 i0 _ 1 8 Try.underlying24 hi0 hz0 hz1 hz2 rfl (by omega) v k _ rfl (HW.out.alloc _) ⟨wr.heap.size, 0, none⟩ 1 1 [.int .i64 (rdF x).1] rfl rfl (World.news_of_block (heap_alloc_new wr _)) (by simp [Value.oneCell']) (by omega) (by unfold maxLen; omega) (by omega) (by simp; omega) (wr.heap.size + 1) (by simp) ?_; intro g' cap' w3 hown3 hgrow hat hlt'))
        have HW3 := Lib.hid hown3
        clear hown3
        go_roundw
        case rel =>
          refine ⟨k + 1, _, by omega, by go_num, rfl, fun j hj => ?_, by rw [HS.out, iv_snoc, ← H5.out]; exact HW3.out, ?_⟩
          · by_cases e : j = k
            · rw [e, HX.out]; exact H1.out
            · exact HO.out j (by omega)
          · exact below_own (w1 := wr.alloc _) HW.out (HB.out.alloc hz _) (by simp; omega) hgrow
        case measure => simp [intOf]; omega
    · obtain rfl : k = ps.length := by omega
      have HE := Lib.hid (HY.out (allN_t HO.out) h60)
      go_wp2_with fail
      go_ret2
      exact ⟨_, by rw [HE.out]; rfl, by rw [HE.out, nums_len]; simpa using own_le HW.out hz1', B1.out.trans (HB.out.mono hz1')⟩
set_option maxRecDepth 100000 in
set_option maxHeartbeats 4000000 in
theorem spec_Numbers (A : Option Addr) (c : Nat) (ps : List ByteArray) (w : World) (hl : ps.length ≤ 1048577) (hs : ∀ k, (sAt ps k).size ≤ 1048576) (hr : Rd w w.heap.size A (sv ps)) :
    Calls Try.prog 109 #[.slice A ps.length c] w fun e w' => ∃ v, e = .returned (.tuple #[v, .bool (allS ps)]) ∧ w'.ownsRow w.heap.size 2 1 v (nbF ps).length (iv (nbF ps)) ∧ Below w.heap.size w w' := by
  obtain ⟨i0, hi0, hz0, hz1, hz2⟩ := info_parts Try.infoS
  have HR := Lib.hid hr
  have HZ := Lib.hid hs
  have HN := Lib.hid (fun (h : allS ps = false) => show nbF ps = [] by rw [nbF, h]; rfl)
  have HY := Lib.hid (fun (h : allS ps = true) => show nbF ps = nums ps by rw [nbF, h]; rfl)
  generalize nbF ps = out at *
  clear hr hs
  suffices hS : Calls Try.prog 109 #[.slice A ps.length c] w (NumPost w ps out) from hS
  go_enter Try.func109, Try.ntmps109
  go_wp2_with fail
  go_loopw [5, 4, 6, 7] (fun s5 s4 _ _ wr => ∃ (k : Nat) (v : Value), k ≤ ps.length ∧ s5 = .int .i64 k ∧ v = s4 ∧ (∀ j, j < k → (sgF (sAt ps j)).2 = true) ∧ wr.ownsRow w.heap.size 2 1 v k (iv (nums (ps.take k))) ∧ Below w.heap.size w wr) (fun s5 _ _ _ _ => ps.length - (intOf s5).toNat)
  case atStart => exact ⟨0, _, Nat.zero_le _, rfl, rfl, fun j h => absurd h (by omega), ⟨rfl, .inr ⟨w.heap.size, 0, _, rfl, Nat.le_refl _, heap_alloc_new _ _, Nat.zero_le _, by unfold maxLen; omega, rfl, rfl⟩⟩, by (repeat (first | with_reducible exact Below.refl _ _ | with_reducible assumption | ((with_reducible refine Bw.set ?_ ?_); rotate_left; focus omega) | ((with_reducible refine Bw.al ?_ ?_); rotate_left; focus (first | omega | (simp; done) | (simp; omega))) | with_reducible refine Below.drew ?_ | with_reducible refine Bw.dr ?_ _))⟩
  case round =>
    obtain ⟨k, v, hk, rfl, rfl, hok, hown, hb⟩ := hrel
    have HO := Lib.hid hok
    have HW := Lib.hid hown
    have HB := Lib.hid hb
    have hz := hb.size
    clear hok hown
    by_cases hlt : k < ps.length
    · obtain ⟨ad, rfl, ha⟩ := (HR.out.keep hb).str hlt
      clear hb
      have hsz := HZ.out k
      have HZ2 := Lib.hid (show (sAt ps k).size ≤ maxLen by unfold maxLen; omega)
      have HS := Lib.hid (nums_snoc hlt)
      generalize hx : sAt ps k = x at *
      have HX := Lib.hid hx
      clear hx
      rcases h1 : (sgF x).2 with _ | _
      · have HF := Lib.hid (allS_f hlt (by rw [HX.out]; exact h1))
        have HE := Lib.hid (HN.out HF.out)
        have H1 := Lib.hid h1
        clear h1
        go_wp2_with fail
        (with_reducible refine (spec_Signed x _ HZ2.out).mono ?_)
        rintro e w2 ⟨rfl, hb2⟩
        rw [H1.out]
        go_wp2_with fail
        go_ret2
        exact ⟨.slice none 0 0, by rw [HF.out]; rfl, by rw [HE.out]; exact ⟨rfl, .inl ⟨rfl, rfl⟩⟩, HB.out.trans (hb2.mono hz)⟩
      · have H1 := Lib.hid h1
        clear h1
        go_wp2_with fail
        (with_reducible refine (spec_Signed x _ HZ2.out).mono ?_)
        rintro e w2 ⟨rfl, hb2⟩
        rw [H1.out]
        have HW2 := Lib.hid (own_below HW.out hb2)
        have HB2 := Lib.hid (HB.out.trans (hb2.mono hz))
        have hzz := hb2.size
        clear hb2
        go_wp2_with (at_builtin; (refine wpList_append_lies _ rfl _ _ _ rfl w.heap.size 2 i0 _ 1 8 Try.underlying24 hi0 hz0 hz1 hz2 rfl (by omega) v k _ rfl (HW2.out.alloc _) ⟨w2.heap.size, 0, none⟩ 1 1 [.int .i64 (sgF x).1] rfl rfl (World.news_of_block (heap_alloc_new w2 _)) (by simp [Value.oneCell']) (by omega) (by unfold maxLen; omega) (by omega) (by simp; omega) (w2.heap.size + 1) (by simp) ?_; intro g' cap' w3 hown3 hgrow hat hlt'))
        have HW3 := Lib.hid hown3
        clear hown3
        go_roundw
        case rel =>
          refine ⟨k + 1, _, by omega, by go_num, rfl, fun j hj => ?_, by rw [HS.out, iv_snoc]; exact HW3.out, below_own (w1 := w2.alloc _) HW2.out (HB2.out.alloc (by omega) _) (by simp; omega) hgrow⟩
          by_cases e : j = k
          · rw [e, HX.out]; exact H1.out
          · exact HO.out j (by omega)
        case measure => simp [intOf]; omega
    · obtain rfl : k = ps.length := by omega
      have HT := Lib.hid (allS_t HO.out)
      have HE := Lib.hid (HY.out HT.out)
      go_wp2_with fail
      go_ret2
      exact ⟨_, by rw [HT.out]; rfl, by rw [HE.out, nums_len]; simpa using HW.out, HB.out⟩
set_option maxRecDepth 100000 in
set_option maxHeartbeats 4000000 in
theorem spec_ReadList (s : ByteArray) (w : World) (hs : s.size ≤ 1048576) : Calls Try.prog 21 #[.string s] w (OwnInts2 w (rlF s).1 (rlF s).2) := by
  rcases hd : decide (s = dash) with _ | _
  rotate_left
  · have e1 := eq_dash hd
    have e2 := eq_dash2 hd
    have HO := Lib.hid (rlF_d (of_decide_eq_true hd))
    clear hd
    go_enter Try.func21, Try.ntmps21
    go_wp2_with fail
    go_ret2
    exact ⟨_, by rw [HO.out]; rfl, by rw [HO.out]; exact ⟨rfl, .inr ⟨w.heap.size, 0, _, rfl, Nat.le_refl _, heap_alloc_new _ _, Nat.zero_le _, by unfold maxLen; omega, rfl, rfl⟩⟩, by (repeat (first | with_reducible exact Below.refl _ _ | with_reducible assumption | ((with_reducible refine Bw.set ?_ ?_); rotate_left; focus omega) | ((with_reducible refine Bw.al ?_ ?_); rotate_left; focus (first | omega | (simp; done) | (simp; omega))) | with_reducible refine Below.drew ?_ | with_reducible refine Bw.dr ?_ _))⟩
  have e1 := eq_dash hd
  have e2 := eq_dash2 hd
  have HN := Lib.hid (fun h => rlF_n (of_decide_eq_false hd) h)
  have HY := Lib.hid (fun h => rlF_y (of_decide_eq_false hd) h)
  have HZ := Lib.hid (splitB_small s 44)
  have hl := (splitB_len s 44).2
  generalize rlF s = out at *
  clear hd
  go_enter Try.func21, Try.ntmps21
  go_wp2_with fail
  (with_reducible refine (spec_Split s 44 _ hs (by omega)).mono ?_)
  rintro e w1 ⟨v1, rfl, hown, hb1⟩
  obtain ⟨A1, c1, rfl, hr1⟩ := own_read hown
  have HR := Lib.hid hr1
  clear hown hr1
  generalize splitB s 44 = ps at *
  have hz1' := hb1.size
  have B1 := Lib.hid hb1
  clear hb1
  go_wp2_with fail
  (with_reducible refine (spec_Numbers A1 c1 ps _ (by omega) (fun k => by have := HZ.out k; omega) HR.out).mono ?_)
  rintro e w2 ⟨v2, rfl, hown2, hb2⟩
  have B2 := Lib.hid (B1.out.trans (hb2.mono hz1'))
  have HV := Lib.hid (allN_s (ps := ps))
  rcases h1 : allS ps with _ | _
  · have HE := Lib.hid (HN.out (.inl (by rw [HV.out, h1]; rfl)))
    clear h1
    go_wp2_with fail
    go_ret2
    exact ⟨.slice none 0 0, by rw [HE.out]; rfl, by rw [HE.out]; exact ⟨rfl, .inl ⟨rfl, rfl⟩⟩, B2.out⟩
  have HO2 := Lib.hid (own_le hown2 hz1')
  have HNB := Lib.hid (show nbF ps = nums ps by rw [nbF, h1]; rfl)
  obtain ⟨A2, c2, rfl, hr2⟩ := own_read hown2
  rw [HNB.out] at hr2
  have HR2 := Lib.hid hr2
  have H1 := Lib.hid h1
  have HL := Lib.hid (nums_len ps)
  have HC := Lib.hid (spec_Values A2 c2 (nums ps) w2 (by rw [HL.out]; unfold maxLen; omega) HR2.out)
  have HO3 : Hid (w2.ownsRow w.heap.size 2 1 (.slice A2 (nums ps).length c2) (nums ps).length (iv (nums ps))) := Lib.hid (by have := HO2.out; rwa [HNB.out] at this)
  have HLB := Lib.hid (show (nbF ps).length = (nums ps).length by rw [HNB.out])
  clear h1 hown2 hr2
  rcases h2 : allV (nums ps) with _ | _
  · have HE := Lib.hid (HN.out (.inl (by rw [HV.out, h2, Bool.and_false])))
    have HV2 := Lib.hid (show vcF (nums ps) = 2 by rw [vcF, h2]; rfl)
    clear h2
    rw [HLB.out]
    go_wp2_with fail
    (with_reducible refine HC.out.mono ?_)
    rintro e w3 ⟨rfl, rfl⟩
    rw [HV2.out]
    go_wp2_with fail
    go_ret2
    exact ⟨.slice none 0 0, by rw [HE.out]; rfl, by rw [HE.out]; exact ⟨rfl, .inl ⟨rfl, rfl⟩⟩, B2.out⟩
  by_cases h60 : 60 < ps.length
  · have HE := Lib.hid (HN.out (.inr h60))
    have HV2 := Lib.hid (show vcF (nums ps) = 3 by rw [vcF, if_pos h2, if_pos (by rw [HL.out]; exact h60)])
    clear h2
    rw [HLB.out]
    go_wp2_with fail
    (with_reducible refine HC.out.mono ?_)
    rintro e w3 ⟨rfl, rfl⟩
    rw [HV2.out]
    go_wp2_with fail
    go_ret2
    exact ⟨.slice none 0 0, by rw [HE.out]; rfl, by rw [HE.out]; exact ⟨rfl, .inl ⟨rfl, rfl⟩⟩, B2.out⟩
  · have HE := Lib.hid (HY.out (by rw [HV.out, H1.out, h2]; rfl) h60)
    have HV2 := Lib.hid (show vcF (nums ps) = 0 by rw [vcF, if_pos h2, if_neg (by rw [HL.out]; exact h60)])
    clear h2
    rw [HLB.out]
    go_wp2_with fail
    (with_reducible refine HC.out.mono ?_)
    rintro e w3 ⟨rfl, rfl⟩
    rw [HV2.out]
    go_wp2_with fail
    go_ret2
    exact ⟨_, by rw [HE.out]; rfl, by rw [HE.out]; exact HO3.out, B2.out⟩

end Go.Proofs.Ytpejbmfapdocaaa
