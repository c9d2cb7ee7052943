/- The law FnLists, walked: it returns true and leaves old memory alone. Condition: the code reads as bytes. -/
import Derived.Test.YtpejbmfapdocaaaLtL
import Derived.Test.YtpejbmfapdocaaaDrN
import Derived.Test.YtpejbmfapdocaaaDrL
namespace Go.Proofs.Ytpejbmfapdocaaa
open Go.RowKit

set_option maxRecDepth 100000 in
set_option maxHeartbeats 4000000 in
theorem law_FnLists (A : Option Addr) (cap : Nat) (us : List Int) (v : World) (hr : Rd v v.heap.size A (bv us)) (hm : us.length ≤ maxLen) (hby : ∀ k, 0 ≤ us.getD k 0 ∧ us.getD k 0 ≤ 255) :
    Calls Try.prog 3 #[.slice A us.length cap] v fun e w' => e = .returned (.bool true) ∧ Below v.heap.size v w' := by
  unfold maxLen at hm
  by_cases hl : 4096 < us.length
  · have hl2 := Lib.hid (show decide (4096 < (us.length : Int)) = true from decide_eq_true (by omega))
    go_enter Try.func3, Try.ntmps3
    go_wp2_with fail
    (with_reducible refine (big_any A us.length cap true _ hl2.out (by unfold maxLen; omega)).mono ?_)
    rintro e w ⟨rfl, rfl⟩
    go_wp2_with fail
    go_ret
    exact ⟨rfl, Below.refl _ _⟩
  have hl2 := Lib.hid (show decide (4096 < (us.length : Int)) = false from decide_eq_false (by omega))
  have HU := Lib.hid (show Code us from ⟨by omega, hby⟩)
  have HR := Lib.hid hr
  have HL := Lib.hid (show us.length ≤ maxLen by unfold maxLen; omega)
  clear hr hm hby hl
  have bb := Below.refl v.heap.size v
  have zb := bb.size
  go_enter Try.func3, Try.ntmps3
  go_wp2_with fail
  (with_reducible refine (big_any A us.length cap false _ hl2.out HL.out).mono ?_)
  rintro e w ⟨rfl, rfl⟩
  go_wp2_with fail
  (with_reducible refine (spec_DrawListText _ _ us _ HU.out HR.out).mono ?_)
  rintro e w1 ⟨A0, c0, xs, rfl, hl, hrd, hb1⟩
  have X1 := Lib.hid hrd
  have HLM := Lib.hid (show xs.length ≤ maxLen by unfold maxLen; omega)
  replace bb := hb1
  replace zb := hb1.size
  clear hb1 hrd
  have T1 := fun (W : World) (h : Rd W W.heap.size A0 (iv xs)) => impl_ListText A0 c0 xs W HLM.out h
  have T2 := fun (W : World) (h : Rd W W.heap.size A0 (iv xs)) => spec_ListText A0 c0 xs W HLM.out h
  obtain ⟨t, tc, et⟩ : ∃ t tc, ltF xs = (t, tc) := ⟨_, _, rfl⟩
  simp only [et] at T1 T2
  replace T1 := Lib.hid T1
  replace T2 := Lib.hid T2
  replace et := Lib.hid et
  go_wp2_with fail
  (with_reducible refine (T1.out _ X1.out).mono ?_)
  rintro e wa ⟨rfl, hb1⟩
  replace X1 := Lib.hid (Rd.now (Hid.out X1) hb1)
  replace bb : Below v.heap.size v wa := bb.trans (hb1.mono zb)
  replace zb := bb.size
  clear hb1
  go_wp2_with fail
  (with_reducible refine (T2.out _ X1.out).mono ?_)
  rintro e wb ⟨rfl, hb1⟩
  replace X1 := Lib.hid (Rd.now (Hid.out X1) hb1)
  replace bb : Below v.heap.size v wb := bb.trans (hb1.mono zb)
  replace zb := bb.size
  clear hb1
  go_wp2_with fail
  (with_reducible refine (spec_DrawReadList _ _ us _ HU.out ((HR.out.keep bb).more zb)).mono ?_)
  rintro e w2 ⟨s, hs, rfl, hb1⟩
  have X2 := Lib.hid (X1.out.now hb1)
  replace bb : Below v.heap.size v w2 := bb.trans (hb1.mono zb)
  replace zb := bb.size
  clear hb1
  have I1 := fun (w : World) => impl_ReadList s w (by omega)
  have I2 := fun (w : World) => spec_ReadList s w (by omega)
  have hrl := rlF_len s
  obtain ⟨ys, yc, ey⟩ : ∃ ys yc, rlF s = (ys, yc) := ⟨_, _, rfl⟩
  have hyc := rlF_code s
  rw [ey] at hyc hrl
  simp only [ey] at I1 I2
  simp only at hyc hrl
  replace I1 := Lib.hid I1
  replace I2 := Lib.hid I2
  replace ey := Lib.hid ey
  have YLM := Lib.hid (show ys.length ≤ maxLen by unfold maxLen; omega)
  go_wp2_with fail
  (with_reducible refine (I1.out _).mono ?_)
  rintro e w3 ⟨v1, rfl, hown, hb1⟩
  obtain ⟨A1, c1, rfl, hrd⟩ := own_read hown
  have Y3 := Lib.hid hrd
  have X3 := Lib.hid (X2.out.now hb1)
  replace bb : Below v.heap.size v w3 := bb.trans (hb1.mono zb)
  replace zb := bb.size
  clear hb1 hown hrd
  go_wp2_with fail
  (with_reducible refine (I2.out _).mono ?_)
  rintro e w4 ⟨v2, rfl, hown, hb1⟩
  obtain ⟨A2, c2, rfl, hrd⟩ := own_read hown
  have Z4 := Lib.hid hrd
  have Y4 := Lib.hid (Y3.out.now hb1)
  have X4 := Lib.hid (X3.out.now hb1)
  replace bb : Below v.heap.size v w4 := bb.trans (hb1.mono zb)
  replace zb := bb.size
  clear hb1 hown hrd
  have hq : (!t.toList == t.toList) = false := by simp
  have hq2 : (!s.toList == s.toList) = false := by simp
  go_wp2_with fail
  (with_reducible refine (likeInts_same A1 A2 _ _ ys _ (by omega) Y4.out Z4.out).mono ?_)
  rintro e w5 ⟨rfl, hb1⟩
  have Y5 := Lib.hid (Y4.out.now hb1)
  have X5 := Lib.hid (X4.out.now hb1)
  replace bb : Below v.heap.size v w5 := bb.trans (hb1.mono zb)
  replace zb := bb.size
  clear hb1
  rcases hyc with rfl | rfl
  all_goals by_cases htc : tc = 0
  · subst htc
    have M3 := fun (W : World) (h : Rd W W.heap.size A1 (iv ys)) => impl_ListText A1 c1 ys W YLM.out h
    simp only [numbers_back ey.out] at M3
    replace M3 := Lib.hid M3
    obtain ⟨k1, k3, k4⟩ := numbers_read et.out
    have R4 := fun (w : World) => impl_ReadList t w (by omega)
    simp only [k1] at R4
    replace R4 := Lib.hid R4
    clear k1
    go_wp2_with fail
    (with_reducible refine (M3.out _ Y5.out).mono ?_)
    rintro e wc ⟨rfl, hb1⟩
    replace X5 := Lib.hid (Rd.now (Hid.out X5) hb1)
    replace bb : Below v.heap.size v wc := bb.trans (hb1.mono zb)
    replace zb := bb.size
    clear hb1
    go_wp2_with fail
    (with_reducible refine (R4.out _).mono ?_)
    rintro e w6 ⟨v3, rfl, hown, hb1⟩
    obtain ⟨A3, c3, rfl, hrd⟩ := own_read hown
    have Z6 := Lib.hid hrd
    have X6 := Lib.hid (X5.out.now hb1)
    replace bb : Below v.heap.size v w6 := bb.trans (hb1.mono zb)
    replace zb := bb.size
    clear hb1 hown hrd
    go_wp2_with fail
    (with_reducible refine (likeInts_same A3 A0 _ _ xs _ (by omega) Z6.out X6.out).mono ?_)
    rintro e w7 ⟨rfl, hb1⟩
    replace bb : Below v.heap.size v w7 := bb.trans (hb1.mono zb)
    clear hb1
    go_wp2_with fail
    go_ret
    exact ⟨rfl, bb⟩
  · have g1 : (tc == 0) = false := by simp [htc]
    have M3 := fun (W : World) (h : Rd W W.heap.size A1 (iv ys)) => impl_ListText A1 c1 ys W YLM.out h
    simp only [numbers_back ey.out] at M3
    replace M3 := Lib.hid M3
    go_wp2_with fail
    (with_reducible refine (M3.out _ Y5.out).mono ?_)
    rintro e wc ⟨rfl, hb1⟩
    replace X5 := Lib.hid (Rd.now (Hid.out X5) hb1)
    replace bb : Below v.heap.size v wc := bb.trans (hb1.mono zb)
    replace zb := bb.size
    clear hb1
    go_wp2_with fail
    go_ret
    exact ⟨rfl, bb⟩
  · subst htc
    obtain ⟨k1, k3, k4⟩ := numbers_read et.out
    have R4 := fun (w : World) => impl_ReadList t w (by omega)
    simp only [k1] at R4
    replace R4 := Lib.hid R4
    clear k1
    go_wp2_with fail
    (with_reducible refine (R4.out _).mono ?_)
    rintro e w6 ⟨v3, rfl, hown, hb1⟩
    obtain ⟨A3, c3, rfl, hrd⟩ := own_read hown
    have Z6 := Lib.hid hrd
    have X6 := Lib.hid (X5.out.now hb1)
    replace bb : Below v.heap.size v w6 := bb.trans (hb1.mono zb)
    replace zb := bb.size
    clear hb1 hown hrd
    go_wp2_with fail
    (with_reducible refine (likeInts_same A3 A0 _ _ xs _ (by omega) Z6.out X6.out).mono ?_)
    rintro e w7 ⟨rfl, hb1⟩
    replace bb : Below v.heap.size v w7 := bb.trans (hb1.mono zb)
    clear hb1
    go_wp2_with fail
    go_ret
    exact ⟨rfl, bb⟩
  · have g1 : (tc == 0) = false := by simp [htc]
    go_wp2_with fail
    go_ret
    exact ⟨rfl, bb⟩

end Go.Proofs.Ytpejbmfapdocaaa
