/- An interval's text, read by the reference: the succeeding side. Conditions: those that the theorem names. -/
import Derived.Test.YtpejbmfapdocaaaIvR
namespace Go.Proofs.Ytpejbmfapdocaaa
open Go.RowKit

theorem empty_nil : ByteArray.empty.toList.isEmpty = true := by simp
set_option maxHeartbeats 4000000 in
theorem spec_ReadInterval_y (s : ByteArray) (a b : Int) (w : World) (hk : isIv a b = true) (hm : ivB a b = s) :
    Calls Try.prog 48 #[.string s] w fun e w' => e = .returned (.tuple #[.agg #[.int .i64 a, .int .i64 b], .int .i64 0]) ∧ Below w.heap.size w w' := by
  have hz := ivB_size hk
  rw [hm] at hz
  have hs : s.size ≤ 1048576 := by omega
  obtain ⟨k1, k2, k3⟩ := isIv_t hk
  have HK := Lib.hid hk
  have HI := Lib.hid (spec_IsInterval a b)
  rw [hk] at HI
  have e4 := eq_str (decide_eq_true hm)
  by_cases hab : a = b
  · subst hab
    rw [ivB_same] at hm
    have hps : splitB s 46 = [s] := split_none (by rw [← hm]; exact numB_nodot (by decide) (by decide))
    have HS0 := Lib.hid (show sgF s = (a, true) by rw [← hm]; exact sgF_num (inB_mk (by omega)))
    clear hm hk
    go_enter Try.func48, Try.ntmps48
    go_upto_region 1 with fail
    obtain ⟨c0, f0, zz, bb⟩ := kept1 (w := w) (A := #[Value.int .i64 0, Value.int .i64 0]) (ta := 40) (Below.refl _ _)
    generalize w.alloc (.cells #[Value.int .i64 0, Value.int .i64 0] 40) = X at *
    go_wp2_with fail
    (with_reducible refine (spec_Split s 46 _ hs (by omega)).mono ?_)
    rintro e w1 ⟨v1, rfl, hown, hb1⟩
    obtain ⟨A1, cc, rfl, hr1⟩ := own_read hown
    clear hown
    replace c0 := cell_kept hb1 (by omega) c0
    replace f0 := frz_kept hb1 (by omega) f0
    replace bb := bb.trans (hb1.mono (by omega))
    replace zz : w.heap.size + 1 ≤ w1.heap.size := by have := hb1.size; omega
    clear hb1
    have h3 : (splitB s 46).length = 1 := by rw [hps]; rfl
    have hp0 : sAt (splitB s 46) 0 = s := by rw [hps]; rfl
    clear hps
    generalize splitB s 46 = ps at *
    obtain ⟨p0, hpp⟩ : ∃ p0, s = p0 := ⟨_, rfl⟩
    have HZ0 := Lib.hid (show p0.size ≤ maxLen by rw [← hpp]; unfold maxLen; omega)
    have HP0 := Lib.hid (hp0.trans hpp)
    rw [hpp] at HS0
    clear hp0 hpp
    have hl : 1 ≤ ps.length := by omega
    have HR := Lib.hid hr1
    obtain ⟨ad, rfl, ha0⟩ := hr1.str (k := 0) (by omega)
    rw [HP0.out] at ha0
    have ha0' : w1.cell? ad = some (.string p0) := by simpa [Addr.add] using ha0
    go_wp2_with fail
    (with_reducible refine (spec_Signed p0 _ HZ0.out).mono ?_)
    rintro e w2 ⟨rfl, hb2⟩
    rw [HS0.out]
    replace c0 := cell_kept hb2 (by omega) c0
    replace f0 := frz_kept hb2 (by omega) f0
    replace bb := bb.trans (hb2.mono (by omega))
    replace zz : w.heap.size + 1 ≤ w2.heap.size := by have := hb2.size; omega
    have zw := hb2.size
    have HB := Lib.hid hb2
    clear hb2 ha0 ha0' hr1
    go_upto_region 4 with fail
    have zg : w.heap.size < w2.heap.size := by omega
    have c1 := cell_new w2 #[Value.int .i64 a, Value.int .i64 a] 40
    have f1 := frz_new w2 #[Value.int .i64 a, Value.int .i64 a] 40
    replace c0 := cell_alloc c0 (by omega) (.cells #[Value.int .i64 a, Value.int .i64 a] 40)
    replace f0 := frz_alloc f0 (by omega) (.cells #[Value.int .i64 a, Value.int .i64 a] 40)
    replace bb : Below w.heap.size w (w2.alloc (.cells #[Value.int .i64 a, Value.int .i64 a] 40)) := bb.alloc (by omega) _
    replace HB := Lib.hid (HB.out.alloc zw (.cells #[Value.int .i64 a, Value.int .i64 a] 40))
    have zc1 := lt_cell c1 (by simp)
    replace zz : w.heap.size + 1 ≤ (w2.alloc (.cells #[Value.int .i64 a, Value.int .i64 a] 40)).heap.size := by omega
    generalize w2.alloc (.cells #[Value.int .i64 a, Value.int .i64 a] 40) = Y at *
    generalize w2.heap.size = g1 at *
    have e3 := len_eq (n := ps.length) (k := 3) 3 rfl (decide_eq_false (by omega))
    go_wp2_with fail
    refine (HI.out _).mono ?_
    rintro e w5 ⟨rfl, hb5⟩
    replace bb : Below w.heap.size w w5 := Below.trans (by (repeat (first | with_reducible exact Below.refl _ _ | with_reducible assumption | ((with_reducible refine Bw.set ?_ ?_); rotate_left; focus omega) | ((with_reducible refine Bw.al ?_ ?_); rotate_left; focus (first | omega | (simp; done) | (simp; omega))) | with_reducible refine Below.drew ?_ | with_reducible refine Bw.dr ?_ _))) (hb5.mono (by first | omega | (simp; done) | (simp; omega)))
    first | replace c0 := cell_kept hb5 (by first | omega | (simp; done) | (simp; omega)) c0 | replace c0 := cell_kept hb5 (by first | omega | (simp; done) | (simp; omega)) (cell_alloc c0 (by first | omega | (simp; done) | (simp; omega)) _)
    replace zc0 := lt_cell c0 (by simp)
    first | replace c1 := cell_kept hb5 (by first | omega | (simp; done) | (simp; omega)) c1 | replace c1 := cell_kept hb5 (by first | omega | (simp; done) | (simp; omega)) (cell_alloc c1 (by first | omega | (simp; done) | (simp; omega)) _)
    replace zc1 := lt_cell c1 (by simp)
    first | replace f0 := frz_kept hb5 (by first | omega | (simp; done) | (simp; omega)) f0 | replace f0 := frz_kept hb5 (by first | omega | (simp; done) | (simp; omega)) (frz_alloc f0 (by first | omega | (simp; done) | (simp; omega)) _)
    replace zz : w.heap.size + 1 ≤ w5.heap.size := by have := hb5.size; first | omega | (simp at this; omega)
    clear hb5
    go_wp2_with fail
    refine (spec_ivText a a _ HK.out).mono ?_
    rintro e w6 ⟨rfl, hb6⟩
    replace bb : Below w.heap.size w w6 := Below.trans (by (repeat (first | with_reducible exact Below.refl _ _ | with_reducible assumption | ((with_reducible refine Bw.set ?_ ?_); rotate_left; focus omega) | ((with_reducible refine Bw.al ?_ ?_); rotate_left; focus (first | omega | (simp; done) | (simp; omega))) | with_reducible refine Below.drew ?_ | with_reducible refine Bw.dr ?_ _))) (hb6.mono (by first | omega | (simp; done) | (simp; omega)))
    first | replace c0 := cell_kept hb6 (by first | omega | (simp; done) | (simp; omega)) c0 | replace c0 := cell_kept hb6 (by first | omega | (simp; done) | (simp; omega)) (cell_alloc c0 (by first | omega | (simp; done) | (simp; omega)) _)
    replace zc0 := lt_cell c0 (by simp)
    first | replace c1 := cell_kept hb6 (by first | omega | (simp; done) | (simp; omega)) c1 | replace c1 := cell_kept hb6 (by first | omega | (simp; done) | (simp; omega)) (cell_alloc c1 (by first | omega | (simp; done) | (simp; omega)) _)
    replace zc1 := lt_cell c1 (by simp)
    first | replace f0 := frz_kept hb6 (by first | omega | (simp; done) | (simp; omega)) f0 | replace f0 := frz_kept hb6 (by first | omega | (simp; done) | (simp; omega)) (frz_alloc f0 (by first | omega | (simp; done) | (simp; omega)) _)
    replace zz : w.heap.size + 1 ≤ w6.heap.size := by have := hb6.size; first | omega | (simp at this; omega)
    clear hb6
    go_wp2_with fail
    refine bodyPost_ret (v := .tuple #[.agg #[.int .i64 a, .int .i64 a], .int .i64 0]) (by simp (maxDischargeDepth := 8) [results, Try.results48, go_sem, c0, c1]) rfl ⟨?_, ?_⟩
    · rfl
    · (repeat (first | with_reducible exact Below.refl _ _ | with_reducible assumption | ((with_reducible refine Bw.set ?_ ?_); rotate_left; focus omega) | ((with_reducible refine Bw.al ?_ ?_); rotate_left; focus (first | omega | (simp; done) | (simp; omega))) | with_reducible refine Below.drew ?_ | with_reducible refine Bw.dr ?_ _))
  · have hc := (iv_cut (x := numB a) (y := numB b) (numB_nodot (by decide) (by decide)) (numB_nodot (by decide) (by decide))).2.2.2.2.2.2
    rw [← ivB_diff hab, hm] at hc
    have s1 := numB_size (n := a) (by omega)
    have s2 := numB_size (n := b) (by omega)
    have HZ0' := Lib.hid (show (numB a).size ≤ maxLen from Nat.le_trans s1 (by unfold maxLen; omega))
    have HZ2' := Lib.hid (show (numB b).size ≤ maxLen from Nat.le_trans s2 (by unfold maxLen; omega))
    have HS0' := Lib.hid (sgF_num (n := a) (inB_mk (by omega)))
    have HS2' := Lib.hid (sgF_num (n := b) (inB_mk (by omega)))
    clear hm hk hab s1 s2
    go_enter Try.func48, Try.ntmps48
    go_upto_region 1 with fail
    obtain ⟨c0, f0, zz, bb⟩ := kept1 (w := w) (A := #[Value.int .i64 0, Value.int .i64 0]) (ta := 40) (Below.refl _ _)
    generalize w.alloc (.cells #[Value.int .i64 0, Value.int .i64 0] 40) = X at *
    go_wp2_with fail
    (with_reducible refine (spec_Split s 46 _ hs (by omega)).mono ?_)
    rintro e w1 ⟨v1, rfl, hown, hb1⟩
    obtain ⟨A1, cc, rfl, hr1⟩ := own_read hown
    clear hown
    replace c0 := cell_kept hb1 (by omega) c0
    replace f0 := frz_kept hb1 (by omega) f0
    replace bb := bb.trans (hb1.mono (by omega))
    replace zz : w.heap.size + 1 ≤ w1.heap.size := by have := hb1.size; omega
    clear hb1
    have h3 : (splitB s 46).length = 3 := by rw [hc]; rfl
    have HP0' := Lib.hid (show sAt (splitB s 46) 0 = numB a by rw [hc]; rfl)
    have HP1' := Lib.hid (show sAt (splitB s 46) 1 = ByteArray.empty by rw [hc]; rfl)
    have HP2' := Lib.hid (show sAt (splitB s 46) 2 = numB b by rw [hc]; rfl)
    clear hc
    generalize splitB s 46 = ps at *
    obtain ⟨p0, hp0⟩ : ∃ p0, numB a = p0 := ⟨_, rfl⟩
    obtain ⟨p1, hp1⟩ : ∃ p1, ByteArray.empty = p1 := ⟨_, rfl⟩
    obtain ⟨p2, hp2⟩ : ∃ p2, numB b = p2 := ⟨_, rfl⟩
    have HZ0 := Lib.hid (hp0 ▸ HZ0'.out)
    have HZ2 := Lib.hid (hp2 ▸ HZ2'.out)
    have HS0 := Lib.hid (hp0 ▸ HS0'.out)
    have HS2 := Lib.hid (hp2 ▸ HS2'.out)
    have HP0 := Lib.hid (HP0'.out.trans hp0)
    have HP1 := Lib.hid (HP1'.out.trans hp1)
    have HP2 := Lib.hid (HP2'.out.trans hp2)
    have e1 : p1.toList.isEmpty = true := by rw [← hp1]; exact empty_nil
    have e1' : p1.toList = [] := List.isEmpty_iff.1 e1
    clear hp0 hp1 hp2 HZ0' HZ2' HS0' HS2' HP0' HP1' HP2'
    have hl : 1 ≤ ps.length := by omega
    have HR := Lib.hid hr1
    obtain ⟨ad, rfl, ha0⟩ := hr1.str (k := 0) (by omega)
    rw [HP0.out] at ha0
    have ha0' : w1.cell? ad = some (.string p0) := by simpa [Addr.add] using ha0
    go_wp2_with fail
    (with_reducible refine (spec_Signed p0 _ HZ0.out).mono ?_)
    rintro e w2 ⟨rfl, hb2⟩
    rw [HS0.out]
    replace c0 := cell_kept hb2 (by omega) c0
    replace f0 := frz_kept hb2 (by omega) f0
    replace bb := bb.trans (hb2.mono (by omega))
    replace zz : w.heap.size + 1 ≤ w2.heap.size := by have := hb2.size; omega
    have zw := hb2.size
    have HB := Lib.hid hb2
    clear hb2 ha0 ha0' hr1
    go_upto_region 4 with fail
    have zg : w.heap.size < w2.heap.size := by omega
    have c1 := cell_new w2 #[Value.int .i64 a, Value.int .i64 a] 40
    have f1 := frz_new w2 #[Value.int .i64 a, Value.int .i64 a] 40
    replace c0 := cell_alloc c0 (by omega) (.cells #[Value.int .i64 a, Value.int .i64 a] 40)
    replace f0 := frz_alloc f0 (by omega) (.cells #[Value.int .i64 a, Value.int .i64 a] 40)
    replace bb : Below w.heap.size w (w2.alloc (.cells #[Value.int .i64 a, Value.int .i64 a] 40)) := bb.alloc (by omega) _
    replace HB := Lib.hid (HB.out.alloc zw (.cells #[Value.int .i64 a, Value.int .i64 a] 40))
    have zc1 := lt_cell c1 (by simp)
    replace zz : w.heap.size + 1 ≤ (w2.alloc (.cells #[Value.int .i64 a, Value.int .i64 a] 40)).heap.size := by omega
    generalize w2.alloc (.cells #[Value.int .i64 a, Value.int .i64 a] 40) = Y at *
    generalize w2.heap.size = g1 at *
    have e3 := len_eq (n := ps.length) (k := 3) 3 rfl (decide_eq_true h3)
    obtain ⟨_, ho2, ha2⟩ := (HR.out.keep HB.out).str (k := 2) (by omega)
    obtain rfl := Option.some.inj ho2
    rw [HP2.out] at ha2
    have ha2' : Y.cell? ⟨ad.block, ad.off + 2, none⟩ = some (.string p2) := by simpa [Addr.add] using ha2
    go_wp2_with fail
    (with_reducible refine (spec_Signed p2 _ HZ2.out).mono ?_)
    rintro e w3 ⟨rfl, hb3⟩
    rw [HS2.out]
    replace c0 := cell_kept hb3 (by omega) c0
    replace f0 := frz_kept hb3 (by omega) f0
    replace c1 := cell_kept hb3 (by omega) c1
    replace f1 := frz_kept hb3 (by omega) f1
    replace bb := bb.trans (hb3.mono (by omega))
    replace zz : w.heap.size + 1 ≤ w3.heap.size := by have := hb3.size; omega
    replace zc1 : g1 < w3.heap.size := by have := hb3.size; omega
    replace HB := Lib.hid (HB.out.trans (hb3.mono HB.out.size))
    clear hb3 ha2 ha2'
    obtain ⟨_, ho1, ha1⟩ := (HR.out.keep HB.out).str (k := 1) (by omega)
    obtain rfl := Option.some.inj ho1
    rw [HP1.out] at ha1
    have ha1' : w3.cell? ⟨ad.block, ad.off + 1, none⟩ = some (.string p1) := by simpa [Addr.add] using ha1
    go_upto_region 8 with fail
    replace c0 := cell_far c0 (show g1 ≠ w.heap.size by omega) 1 (Value.int .i64 b)
    replace f0 := frz_put (g' := g1) f0 1 (Value.int .i64 b)
    have c1' : ∀ i, (w3.setCell ⟨g1, 1, none⟩ (Value.int .i64 b)).cell? ⟨g1, i, none⟩ = #[Value.int .i64 a, Value.int .i64 b][i]? := cell_put c1 1 _ (by simp)
    replace c1 := c1'
    clear c1'
    replace bb : Below w.heap.size w (w3.setCell ⟨g1, 1, none⟩ (Value.int .i64 b)) := bb.setCell (show w.heap.size ≤ g1 by omega) _
    replace zz : w.heap.size + 1 ≤ (w3.setCell ⟨g1, 1, none⟩ (Value.int .i64 b)).heap.size := by simp only [World.size_setCell]; exact zz
    replace zc1 := lt_cell c1 (by simp)
    generalize w3.setCell ⟨g1, 1, none⟩ (Value.int .i64 b) = Z at *
    go_wp2_with fail
    refine (HI.out _).mono ?_
    rintro e w5 ⟨rfl, hb5⟩
    replace bb : Below w.heap.size w w5 := Below.trans (by (repeat (first | with_reducible exact Below.refl _ _ | with_reducible assumption | ((with_reducible refine Bw.set ?_ ?_); rotate_left; focus omega) | ((with_reducible refine Bw.al ?_ ?_); rotate_left; focus (first | omega | (simp; done) | (simp; omega))) | with_reducible refine Below.drew ?_ | with_reducible refine Bw.dr ?_ _))) (hb5.mono (by first | omega | (simp; done) | (simp; omega)))
    first | replace c0 := cell_kept hb5 (by first | omega | (simp; done) | (simp; omega)) c0 | replace c0 := cell_kept hb5 (by first | omega | (simp; done) | (simp; omega)) (cell_alloc c0 (by first | omega | (simp; done) | (simp; omega)) _)
    replace zc0 := lt_cell c0 (by simp)
    first | replace c1 := cell_kept hb5 (by first | omega | (simp; done) | (simp; omega)) c1 | replace c1 := cell_kept hb5 (by first | omega | (simp; done) | (simp; omega)) (cell_alloc c1 (by first | omega | (simp; done) | (simp; omega)) _)
    replace zc1 := lt_cell c1 (by simp)
    first | replace f0 := frz_kept hb5 (by first | omega | (simp; done) | (simp; omega)) f0 | replace f0 := frz_kept hb5 (by first | omega | (simp; done) | (simp; omega)) (frz_alloc f0 (by first | omega | (simp; done) | (simp; omega)) _)
    replace zz : w.heap.size + 1 ≤ w5.heap.size := by have := hb5.size; first | omega | (simp at this; omega)
    clear hb5
    go_wp2_with fail
    refine (spec_ivText a b _ HK.out).mono ?_
    rintro e w6 ⟨rfl, hb6⟩
    replace bb : Below w.heap.size w w6 := Below.trans (by (repeat (first | with_reducible exact Below.refl _ _ | with_reducible assumption | ((with_reducible refine Bw.set ?_ ?_); rotate_left; focus omega) | ((with_reducible refine Bw.al ?_ ?_); rotate_left; focus (first | omega | (simp; done) | (simp; omega))) | with_reducible refine Below.drew ?_ | with_reducible refine Bw.dr ?_ _))) (hb6.mono (by first | omega | (simp; done) | (simp; omega)))
    first | replace c0 := cell_kept hb6 (by first | omega | (simp; done) | (simp; omega)) c0 | replace c0 := cell_kept hb6 (by first | omega | (simp; done) | (simp; omega)) (cell_alloc c0 (by first | omega | (simp; done) | (simp; omega)) _)
    replace zc0 := lt_cell c0 (by simp)
    first | replace c1 := cell_kept hb6 (by first | omega | (simp; done) | (simp; omega)) c1 | replace c1 := cell_kept hb6 (by first | omega | (simp; done) | (simp; omega)) (cell_alloc c1 (by first | omega | (simp; done) | (simp; omega)) _)
    replace zc1 := lt_cell c1 (by simp)
    first | replace f0 := frz_kept hb6 (by first | omega | (simp; done) | (simp; omega)) f0 | replace f0 := frz_kept hb6 (by first | omega | (simp; done) | (simp; omega)) (frz_alloc f0 (by first | omega | (simp; done) | (simp; omega)) _)
    replace zz : w.heap.size + 1 ≤ w6.heap.size := by have := hb6.size; first | omega | (simp at this; omega)
    clear hb6
    go_wp2_with fail
    refine bodyPost_ret (v := .tuple #[.agg #[.int .i64 a, .int .i64 b], .int .i64 0]) (by simp (maxDischargeDepth := 8) [results, Try.results48, go_sem, c0, c1]) rfl ⟨?_, ?_⟩
    · rfl
    · (repeat (first | with_reducible exact Below.refl _ _ | with_reducible assumption | ((with_reducible refine Bw.set ?_ ?_); rotate_left; focus omega) | ((with_reducible refine Bw.al ?_ ?_); rotate_left; focus (first | omega | (simp; done) | (simp; omega))) | with_reducible refine Below.drew ?_ | with_reducible refine Bw.dr ?_ _))

end Go.Proofs.Ytpejbmfapdocaaa
