/- The law FnMeasures, walked: it returns true and leaves old memory alone. Condition: the code reads as bytes. -/
import Derived.Test.YtpejbmfapdocaaaDrM
namespace Go.Proofs.Ytpejbmfapdocaaa
open Go.RowKit

set_option maxRecDepth 100000 in
set_option maxHeartbeats 4000000 in
theorem law_FnMeasures (A : Option Addr) (cap : Nat) (us : List Int) (v : World) (hr : Rd v v.heap.size A (bv us)) (hm : us.length ≤ maxLen) (hby : ∀ k, 0 ≤ us.getD k 0 ∧ us.getD k 0 ≤ 255) :
    Calls Try.prog 11 #[.slice A us.length cap] v fun e w' => e = .returned (.bool true) ∧ Below v.heap.size v w' := by
  unfold maxLen at hm
  by_cases hl : 4096 < us.length
  · have hl2 := Lib.hid (show decide (4096 < (us.length : Int)) = true from decide_eq_true (by omega))
    go_enter Try.func11, Try.ntmps11
    go_wp2_with fail
    (with_reducible refine (big_any A us.length cap true _ hl2.out (by unfold maxLen; omega)).mono ?_)
    rintro e w ⟨rfl, rfl⟩
    go_wp2_with fail
    go_ret
    exact ⟨rfl, Below.refl _ _⟩
  have hl2 := Lib.hid (show decide (4096 < (us.length : Int)) = false from decide_eq_false (by omega))
  have HU := Lib.hid (show Code us from ⟨by omega, hby⟩)
  have HR := Lib.hid hr
  have HL := Lib.hid (show us.length ≤ maxLen by unfold maxLen; omega)
  clear hr hm hby hl
  have bb := Below.refl v.heap.size v
  have zb := bb.size
  go_enter Try.func11, Try.ntmps11
  go_wp2_with fail
  (with_reducible refine (big_any A us.length cap false _ hl2.out HL.out).mono ?_)
  rintro e w ⟨rfl, rfl⟩
  go_wp2_with fail
  (with_reducible refine (spec_DrawMeasureText _ _ us _ HU.out HR.out).mono ?_)
  rintro e w1 ⟨x, rfl, hb1⟩
  replace bb := hb1
  replace zb := hb1.size
  clear hb1
  have T1 := fun w => impl_MeasureText x w
  have T2 := fun w => spec_MeasureText x w
  obtain ⟨t, tc, et⟩ : ∃ t tc, mtF x = (t, tc) := ⟨_, _, rfl⟩
  simp only [et] at T1 T2
  replace T1 := Lib.hid T1
  replace T2 := Lib.hid T2
  replace et := Lib.hid et
  go_wp2_with fail
  (with_reducible refine (T1.out _).mono ?_)
  rintro e w2 ⟨rfl, hb1⟩
  replace bb : Below v.heap.size v w2 := Below.trans (by (repeat (first | with_reducible exact Below.refl _ _ | with_reducible assumption | ((with_reducible refine Bw.set ?_ ?_); rotate_left; focus omega) | ((with_reducible refine Bw.al ?_ ?_); rotate_left; focus (first | omega | (simp; done) | (simp; omega))) | with_reducible refine Below.drew ?_ | with_reducible refine Bw.dr ?_ _))) (hb1.mono (by first | omega | (simp; omega)))
  have zb := bb.size
  clear hb1
  go_wp2_with fail
  (with_reducible refine (T2.out _).mono ?_)
  rintro e w3 ⟨rfl, hb1⟩
  replace bb : Below v.heap.size v w3 := Below.trans (by (repeat (first | with_reducible exact Below.refl _ _ | with_reducible assumption | ((with_reducible refine Bw.set ?_ ?_); rotate_left; focus omega) | ((with_reducible refine Bw.al ?_ ?_); rotate_left; focus (first | omega | (simp; done) | (simp; omega))) | with_reducible refine Below.drew ?_ | with_reducible refine Bw.dr ?_ _))) (hb1.mono (by first | omega | (simp; omega)))
  have zb := bb.size
  clear hb1
  go_wp2_with fail
  (with_reducible refine (spec_DrawReadMeasure _ _ us _ HU.out ((HR.out.keep bb).more zb)).mono ?_)
  rintro e w4 ⟨s, hs, rfl, hb1⟩
  replace bb : Below v.heap.size v w4 := bb.trans (hb1.mono zb)
  have zb := bb.size
  clear hb1
  have HL := Lib.hid (show s.size ≤ 1048576 by omega)
  obtain ⟨y, c, hrd⟩ := rdMs_get s
  replace hrd := Lib.hid hrd
  go_wp2_with fail
  (with_reducible refine (impl_ReadMeasure _ HL.out hrd.out).mono ?_)
  rintro e w5 ⟨rfl, hb1⟩
  replace bb : Below v.heap.size v w5 := Below.trans (by (repeat (first | with_reducible exact Below.refl _ _ | with_reducible assumption | ((with_reducible refine Bw.set ?_ ?_); rotate_left; focus omega) | ((with_reducible refine Bw.al ?_ ?_); rotate_left; focus (first | omega | (simp; done) | (simp; omega))) | with_reducible refine Below.drew ?_ | with_reducible refine Bw.dr ?_ _))) (hb1.mono (by first | omega | (simp; omega)))
  have zb := bb.size
  clear hb1
  go_wp2_with fail
  (with_reducible refine (spec_ReadMeasure _ HL.out hrd.out).mono ?_)
  rintro e w6 ⟨rfl, hb1⟩
  replace bb : Below v.heap.size v w6 := Below.trans (by (repeat (first | with_reducible exact Below.refl _ _ | with_reducible assumption | ((with_reducible refine Bw.set ?_ ?_); rotate_left; focus omega) | ((with_reducible refine Bw.al ?_ ?_); rotate_left; focus (first | omega | (simp; done) | (simp; omega))) | with_reducible refine Below.drew ?_ | with_reducible refine Bw.dr ?_ _))) (hb1.mono (by first | omega | (simp; omega)))
  have zb := bb.size
  clear hb1
  have hq : (!t.toList == t.toList) = false := by simp
  have hq2 : (!s.toList == s.toList) = false := by simp
  rcases hrd.out with ⟨rfl, h1, h2⟩ | ⟨rfl, rfl, _⟩
  all_goals
    clear hrd
    rcases hv : isVal x with _ | _
  · have M3 := fun w => impl_MeasureText y w
    simp only [mtF_y h1, h2] at M3
    replace M3 := Lib.hid M3
    clear h1 h2
    have e2 := et.out
    rw [mtF_n hv] at e2
    obtain ⟨rfl, rfl⟩ := Prod.mk.inj e2
    clear e2 et hv
    go_wp2_with fail
    (with_reducible refine (M3.out _).mono ?_)
    rintro e w7 ⟨rfl, hb1⟩
    replace bb : Below v.heap.size v w7 := Below.trans (by (repeat (first | with_reducible exact Below.refl _ _ | with_reducible assumption | ((with_reducible refine Bw.set ?_ ?_); rotate_left; focus omega) | ((with_reducible refine Bw.al ?_ ?_); rotate_left; focus (first | omega | (simp; done) | (simp; omega))) | with_reducible refine Below.drew ?_ | with_reducible refine Bw.dr ?_ _))) (hb1.mono (by first | omega | (simp; omega)))
    have zb := bb.size
    clear hb1
    go_wp2_with fail
    go_ret
    exact ⟨rfl, bb⟩
  · have M3 := fun w => impl_MeasureText y w
    simp only [mtF_y h1, h2] at M3
    replace M3 := Lib.hid M3
    clear h1 h2
    have e2 := et.out
    rw [mtF_y hv] at e2
    obtain ⟨e3, rfl⟩ := Prod.mk.inj e2
    have R4 := Lib.hid (fun w => impl_ReadMeasure (s := t) (a := x) (c := 0) w (by have := (mesB_bd hv).2; rw [e3] at this; omega) (.inl ⟨rfl, hv, e3⟩))
    clear e2 e3 et hv
    go_wp2_with fail
    (with_reducible refine (M3.out _).mono ?_)
    rintro e w7 ⟨rfl, hb1⟩
    replace bb : Below v.heap.size v w7 := Below.trans (by (repeat (first | with_reducible exact Below.refl _ _ | with_reducible assumption | ((with_reducible refine Bw.set ?_ ?_); rotate_left; focus omega) | ((with_reducible refine Bw.al ?_ ?_); rotate_left; focus (first | omega | (simp; done) | (simp; omega))) | with_reducible refine Below.drew ?_ | with_reducible refine Bw.dr ?_ _))) (hb1.mono (by first | omega | (simp; omega)))
    have zb := bb.size
    clear hb1
    go_wp2_with fail
    (with_reducible refine (R4.out _).mono ?_)
    rintro e w8 ⟨rfl, hb1⟩
    replace bb : Below v.heap.size v w8 := Below.trans (by (repeat (first | with_reducible exact Below.refl _ _ | with_reducible assumption | ((with_reducible refine Bw.set ?_ ?_); rotate_left; focus omega) | ((with_reducible refine Bw.al ?_ ?_); rotate_left; focus (first | omega | (simp; done) | (simp; omega))) | with_reducible refine Below.drew ?_ | with_reducible refine Bw.dr ?_ _))) (hb1.mono (by first | omega | (simp; omega)))
    have zb := bb.size
    clear hb1
    go_wp2_with fail
    go_ret
    exact ⟨rfl, bb⟩
  · have e2 := et.out
    rw [mtF_n hv] at e2
    obtain ⟨rfl, rfl⟩ := Prod.mk.inj e2
    clear e2 et hv
    go_wp2_with fail
    go_ret
    exact ⟨rfl, bb⟩
  · have e2 := et.out
    rw [mtF_y hv] at e2
    obtain ⟨e3, rfl⟩ := Prod.mk.inj e2
    have R4 := Lib.hid (fun w => impl_ReadMeasure (s := t) (a := x) (c := 0) w (by have := (mesB_bd hv).2; rw [e3] at this; omega) (.inl ⟨rfl, hv, e3⟩))
    clear e2 e3 et hv
    go_wp2_with fail
    (with_reducible refine (R4.out _).mono ?_)
    rintro e w8 ⟨rfl, hb1⟩
    replace bb : Below v.heap.size v w8 := Below.trans (by (repeat (first | with_reducible exact Below.refl _ _ | with_reducible assumption | ((with_reducible refine Bw.set ?_ ?_); rotate_left; focus omega) | ((with_reducible refine Bw.al ?_ ?_); rotate_left; focus (first | omega | (simp; done) | (simp; omega))) | with_reducible refine Below.drew ?_ | with_reducible refine Bw.dr ?_ _))) (hb1.mono (by first | omega | (simp; omega)))
    have zb := bb.size
    clear hb1
    go_wp2_with fail
    go_ret
    exact ⟨rfl, bb⟩

end Go.Proofs.Ytpejbmfapdocaaa
