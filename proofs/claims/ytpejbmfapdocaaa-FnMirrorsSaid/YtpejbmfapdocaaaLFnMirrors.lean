/- The law FnMirrors, walked: it returns true and leaves old memory alone. Condition: the code reads as bytes. -/
import Derived.Test.YtpejbmfapdocaaaDrV
import Derived.Test.YtpejbmfapdocaaaDrL
import Derived.Test.YtpejbmfapdocaaaWhD
import Derived.Test.YtpejbmfapdocaaaWhC
namespace Go.Proofs.Ytpejbmfapdocaaa
open Go.RowKit

/-- The ways of a mirrored hub. -/
theorem mh_ways (h l r lo ro : Int) : (hubB h l r lo ro = true ∧ hubB h r l ro lo = true) ∨ hubB h l r lo ro = false := by
  rcases e : hubB h l r lo ro with _ | _
  · exact .inr rfl
  · obtain ⟨k0, k1, k2, k3, k4⟩ := hubB_t e
    exact .inl ⟨rfl, by rw [hubB, k0, inB_mk k2, inB_mk k1, inB_mk k4, inB_mk k3]; rfl⟩
theorem mw_ways (h l r lo ro rh rd rf cr : Int) : (wheelB h l r lo ro rh rd rf cr = true ∧ wheelB h r l ro lo rh rd (-rf) cr = true ∧ (0 ≤ lo ∧ lo ≤ 500) ∧ (0 ≤ ro ∧ ro ≤ 500) ∧ (-100 ≤ rf ∧ rf ≤ 100)) ∨ wheelB h l r lo ro rh rd rf cr = false := by
  rcases e : wheelB h l r lo ro rh rd rf cr with _ | _
  · exact .inr rfl
  · obtain ⟨k1, k2, k3, k4⟩ := wheelB_t e
    obtain ⟨m0, m1, m2, m3, m4⟩ := hubB_t k1
    obtain ⟨n0, n1, n2⟩ := rimB_t k2
    refine .inl ⟨rfl, ?_, m3, m4, n2⟩
    rw [wheelB, hubB, m0, inB_mk m2, inB_mk m1, inB_mk m4, inB_mk m3, rimB, n0, inB_mk n1, inB_mk (show -100 ≤ -rf ∧ -rf ≤ 100 by omega), decide_eq_true k3, inB_mk k4]
    rfl
set_option maxRecDepth 100000 in
set_option maxHeartbeats 8000000 in
theorem law_FnMirrors (A : Option Addr) (cap : Nat) (us : List Int) (v : World) (hr : Rd v v.heap.size A (bv us)) (hm : us.length ≤ maxLen) (hby : ∀ k, 0 ≤ us.getD k 0 ∧ us.getD k 0 ≤ 255) :
    Calls Try.prog 9 #[.slice A us.length cap] v fun e w' => e = .returned (.bool true) ∧ Below v.heap.size v w' := by
  unfold maxLen at hm
  by_cases hl : 4096 < us.length
  · have hl2 := Lib.hid (show decide (4096 < (us.length : Int)) = true from decide_eq_true (by omega))
    go_enter Try.func9, Try.ntmps9
    go_wp2_with fail
    (with_reducible refine (big_any A us.length cap true _ hl2.out (by unfold maxLen; omega)).mono ?_)
    rintro e w ⟨rfl, rfl⟩
    go_wp2_with fail
    go_ret
    exact ⟨rfl, Below.refl _ _⟩
  have hl2 := Lib.hid (show decide (4096 < (us.length : Int)) = false from decide_eq_false (by omega))
  have HU := Lib.hid (show Code us from ⟨by omega, hby⟩)
  have HR := Lib.hid hr
  have HL := Lib.hid (show us.length ≤ maxLen by unfold maxLen; omega)
  clear hr hm hby hl
  have bb := Below.refl v.heap.size v
  have zb := bb.size
  go_enter Try.func9, Try.ntmps9
  go_wp2_with fail
  (with_reducible refine (big_any A us.length cap false _ hl2.out HL.out).mono ?_)
  rintro e w ⟨rfl, rfl⟩
  go_wp2_with fail
  (with_reducible refine (spec_DrawMirrorWheel _ _ us _ HU.out HR.out).mono ?_)
  rintro e w1 ⟨h, l, r, lo, ro, rh, rd, rf, cr, rfl, hb1⟩
  replace bb := hb1
  replace zb := hb1.size
  clear hb1
  have M1 := fun w => impl_MirrorWheel h l r lo ro rh rd rf cr w
  have M2 := fun w => spec_MirrorWheel h l r lo ro rh rd rf cr w
  have D1 := fun w => impl_DishOf h l r lo ro rh rd rf cr w
  have D2 := fun w => spec_DishOf h l r lo ro rh rd rf cr w
  have IW := fun w => impl_IsWheel h l r lo ro rh rd rf cr w
  obtain ⟨d0, dc, ed⟩ : ∃ d0 dc, dishF h l r lo ro rh rd rf cr = (d0, dc) := ⟨_, _, rfl⟩
  simp only [ed] at D1 D2
  obtain ⟨wb, ew⟩ : ∃ wb, wheelB h l r lo ro rh rd rf cr = wb := ⟨_, rfl⟩
  simp only [ew] at M1 M2 IW
  generalize e0 : mhF wb (h) = y0 at M1 M2
  generalize e1 : mhF wb (r) = y1 at M1 M2
  generalize e2 : mhF wb (l) = y2 at M1 M2
  generalize e3 : mhF wb (ro) = y3 at M1 M2
  generalize e4 : mhF wb (lo) = y4 at M1 M2
  generalize e5 : mhF wb (rh) = y5 at M1 M2
  generalize e6 : mhF wb (rd) = y6 at M1 M2
  generalize e7 : mhF wb (-rf) = y7 at M1 M2
  generalize e8 : mhF wb (cr) = y8 at M1 M2
  replace e0 := Lib.hid e0
  replace e1 := Lib.hid e1
  replace e2 := Lib.hid e2
  replace e3 := Lib.hid e3
  replace e4 := Lib.hid e4
  replace e5 := Lib.hid e5
  replace e6 := Lib.hid e6
  replace e7 := Lib.hid e7
  replace e8 := Lib.hid e8
  obtain ⟨yc, ec⟩ : ∃ yc, mhC wb = yc := ⟨_, rfl⟩
  rw [ec] at M1 M2
  replace ec := Lib.hid ec
  replace ew := Lib.hid ew
  replace ed := Lib.hid ed
  replace M1 := Lib.hid M1
  replace M2 := Lib.hid M2
  replace D1 := Lib.hid D1
  replace D2 := Lib.hid D2
  replace IW := Lib.hid IW
  go_upto_region 4 with fail
  have c1 := cell_new w1 #[Value.int .i64 h, Value.int .i64 l, Value.int .i64 r, Value.int .i64 lo, Value.int .i64 ro, Value.int .i64 rh, Value.int .i64 rd, Value.int .i64 rf, Value.int .i64 cr] 64
  replace bb : Below v.heap.size v (w1.alloc (.cells #[Value.int .i64 h, Value.int .i64 l, Value.int .i64 r, Value.int .i64 lo, Value.int .i64 ro, Value.int .i64 rh, Value.int .i64 rd, Value.int .i64 rf, Value.int .i64 cr] 64)) := bb.alloc (by omega) _
  have zc1 := lt_cell c1 (by simp)
  generalize w1.alloc (.cells #[Value.int .i64 h, Value.int .i64 l, Value.int .i64 r, Value.int .i64 lo, Value.int .i64 ro, Value.int .i64 rh, Value.int .i64 rd, Value.int .i64 rf, Value.int .i64 cr] 64) = w2 at *
  generalize w1.heap.size = b1 at *
  have zb := bb.size
  go_wp2_with fail
  (with_reducible refine (M1.out _).mono ?_)
  rintro e w3 ⟨rfl, hb1⟩
  first | replace c1 := cell_kept hb1 (by first | omega | (simp; omega)) c1 | replace c1 := cell_kept hb1 (by first | omega | (simp; omega)) (cell_alloc c1 (by omega) _)
  replace zc1 := lt_cell c1 (by simp)
  replace bb : Below v.heap.size v w3 := Below.trans (by (repeat (first | with_reducible exact Below.refl _ _ | with_reducible assumption | ((with_reducible refine Bw.set ?_ ?_); rotate_left; focus omega) | ((with_reducible refine Bw.al ?_ ?_); rotate_left; focus (first | omega | (simp; done) | (simp; omega))) | with_reducible refine Below.drew ?_ | with_reducible refine Bw.dr ?_ _))) (hb1.mono (by first | omega | (simp; omega)))
  have zb := bb.size
  clear hb1
  go_upto_region 5 with fail
  replace c1 := cell_alloc c1 (by omega) (.cells #[Value.int .i64 y0, Value.int .i64 y1, Value.int .i64 y2, Value.int .i64 y3, Value.int .i64 y4, Value.int .i64 y5, Value.int .i64 y6, Value.int .i64 y7, Value.int .i64 y8] 64)
  replace zc1 := lt_cell c1 (by simp)
  have c2 := cell_new w3 #[Value.int .i64 y0, Value.int .i64 y1, Value.int .i64 y2, Value.int .i64 y3, Value.int .i64 y4, Value.int .i64 y5, Value.int .i64 y6, Value.int .i64 y7, Value.int .i64 y8] 64
  replace bb : Below v.heap.size v (w3.alloc (.cells #[Value.int .i64 y0, Value.int .i64 y1, Value.int .i64 y2, Value.int .i64 y3, Value.int .i64 y4, Value.int .i64 y5, Value.int .i64 y6, Value.int .i64 y7, Value.int .i64 y8] 64)) := bb.alloc (by omega) _
  have zc2 := lt_cell c2 (by simp)
  generalize w3.alloc (.cells #[Value.int .i64 y0, Value.int .i64 y1, Value.int .i64 y2, Value.int .i64 y3, Value.int .i64 y4, Value.int .i64 y5, Value.int .i64 y6, Value.int .i64 y7, Value.int .i64 y8] 64) = w4 at *
  generalize w3.heap.size = b2 at *
  have zb := bb.size
  go_wp2_with fail
  (with_reducible refine (M2.out _).mono ?_)
  rintro e w5 ⟨rfl, hb1⟩
  first | replace c1 := cell_kept hb1 (by first | omega | (simp; omega)) c1 | replace c1 := cell_kept hb1 (by first | omega | (simp; omega)) (cell_alloc c1 (by omega) _)
  replace zc1 := lt_cell c1 (by simp)
  first | replace c2 := cell_kept hb1 (by first | omega | (simp; omega)) c2 | replace c2 := cell_kept hb1 (by first | omega | (simp; omega)) (cell_alloc c2 (by omega) _)
  replace zc2 := lt_cell c2 (by simp)
  replace bb : Below v.heap.size v w5 := Below.trans (by (repeat (first | with_reducible exact Below.refl _ _ | with_reducible assumption | ((with_reducible refine Bw.set ?_ ?_); rotate_left; focus omega) | ((with_reducible refine Bw.al ?_ ?_); rotate_left; focus (first | omega | (simp; done) | (simp; omega))) | with_reducible refine Below.drew ?_ | with_reducible refine Bw.dr ?_ _))) (hb1.mono (by first | omega | (simp; omega)))
  have zb := bb.size
  clear hb1
  go_upto_region 6 with fail
  replace c1 := cell_alloc c1 (by omega) (.cells #[Value.int .i64 y0, Value.int .i64 y1, Value.int .i64 y2, Value.int .i64 y3, Value.int .i64 y4, Value.int .i64 y5, Value.int .i64 y6, Value.int .i64 y7, Value.int .i64 y8] 64)
  replace zc1 := lt_cell c1 (by simp)
  replace c2 := cell_alloc c2 (by omega) (.cells #[Value.int .i64 y0, Value.int .i64 y1, Value.int .i64 y2, Value.int .i64 y3, Value.int .i64 y4, Value.int .i64 y5, Value.int .i64 y6, Value.int .i64 y7, Value.int .i64 y8] 64)
  replace zc2 := lt_cell c2 (by simp)
  have c3 := cell_new w5 #[Value.int .i64 y0, Value.int .i64 y1, Value.int .i64 y2, Value.int .i64 y3, Value.int .i64 y4, Value.int .i64 y5, Value.int .i64 y6, Value.int .i64 y7, Value.int .i64 y8] 64
  replace bb : Below v.heap.size v (w5.alloc (.cells #[Value.int .i64 y0, Value.int .i64 y1, Value.int .i64 y2, Value.int .i64 y3, Value.int .i64 y4, Value.int .i64 y5, Value.int .i64 y6, Value.int .i64 y7, Value.int .i64 y8] 64)) := bb.alloc (by omega) _
  have zc3 := lt_cell c3 (by simp)
  generalize w5.alloc (.cells #[Value.int .i64 y0, Value.int .i64 y1, Value.int .i64 y2, Value.int .i64 y3, Value.int .i64 y4, Value.int .i64 y5, Value.int .i64 y6, Value.int .i64 y7, Value.int .i64 y8] 64) = w6 at *
  generalize w5.heap.size = b3 at *
  have zb := bb.size
  go_wp2_with fail
  (with_reducible refine (D1.out _).mono ?_)
  rintro e w7 ⟨rfl, hb1⟩
  first | replace c1 := cell_kept hb1 (by first | omega | (simp; omega)) c1 | replace c1 := cell_kept hb1 (by first | omega | (simp; omega)) (cell_alloc c1 (by omega) _)
  replace zc1 := lt_cell c1 (by simp)
  first | replace c2 := cell_kept hb1 (by first | omega | (simp; omega)) c2 | replace c2 := cell_kept hb1 (by first | omega | (simp; omega)) (cell_alloc c2 (by omega) _)
  replace zc2 := lt_cell c2 (by simp)
  first | replace c3 := cell_kept hb1 (by first | omega | (simp; omega)) c3 | replace c3 := cell_kept hb1 (by first | omega | (simp; omega)) (cell_alloc c3 (by omega) _)
  replace zc3 := lt_cell c3 (by simp)
  replace bb : Below v.heap.size v w7 := Below.trans (by (repeat (first | with_reducible exact Below.refl _ _ | with_reducible assumption | ((with_reducible refine Bw.set ?_ ?_); rotate_left; focus omega) | ((with_reducible refine Bw.al ?_ ?_); rotate_left; focus (first | omega | (simp; done) | (simp; omega))) | with_reducible refine Below.drew ?_ | with_reducible refine Bw.dr ?_ _))) (hb1.mono (by first | omega | (simp; omega)))
  have zb := bb.size
  clear hb1
  go_wp2_with fail
  (with_reducible refine (D2.out _).mono ?_)
  rintro e w8 ⟨rfl, hb1⟩
  first | replace c1 := cell_kept hb1 (by first | omega | (simp; omega)) c1 | replace c1 := cell_kept hb1 (by first | omega | (simp; omega)) (cell_alloc c1 (by omega) _)
  replace zc1 := lt_cell c1 (by simp)
  first | replace c2 := cell_kept hb1 (by first | omega | (simp; omega)) c2 | replace c2 := cell_kept hb1 (by first | omega | (simp; omega)) (cell_alloc c2 (by omega) _)
  replace zc2 := lt_cell c2 (by simp)
  first | replace c3 := cell_kept hb1 (by first | omega | (simp; omega)) c3 | replace c3 := cell_kept hb1 (by first | omega | (simp; omega)) (cell_alloc c3 (by omega) _)
  replace zc3 := lt_cell c3 (by simp)
  replace bb : Below v.heap.size v w8 := Below.trans (by (repeat (first | with_reducible exact Below.refl _ _ | with_reducible assumption | ((with_reducible refine Bw.set ?_ ?_); rotate_left; focus omega) | ((with_reducible refine Bw.al ?_ ?_); rotate_left; focus (first | omega | (simp; done) | (simp; omega))) | with_reducible refine Below.drew ?_ | with_reducible refine Bw.dr ?_ _))) (hb1.mono (by first | omega | (simp; omega)))
  have zb := bb.size
  clear hb1
  go_wp2_with fail
  (with_reducible refine (spec_DrawMirrorHub _ _ us _ HU.out ((HR.out.keep bb).more zb)).mono ?_)
  rintro e w9 ⟨a, b, c, d, f, rfl, hb1⟩
  first | replace c1 := cell_kept hb1 (by first | omega | (simp; omega)) c1 | replace c1 := cell_kept hb1 (by first | omega | (simp; omega)) (cell_alloc c1 (by omega) _)
  replace zc1 := lt_cell c1 (by simp)
  first | replace c2 := cell_kept hb1 (by first | omega | (simp; omega)) c2 | replace c2 := cell_kept hb1 (by first | omega | (simp; omega)) (cell_alloc c2 (by omega) _)
  replace zc2 := lt_cell c2 (by simp)
  first | replace c3 := cell_kept hb1 (by first | omega | (simp; omega)) c3 | replace c3 := cell_kept hb1 (by first | omega | (simp; omega)) (cell_alloc c3 (by omega) _)
  replace zc3 := lt_cell c3 (by simp)
  replace bb : Below v.heap.size v w9 := bb.trans (hb1.mono zb)
  have zb := bb.size
  clear hb1
  have K1 := fun w => impl_MirrorHub a b c d f w
  have K2 := fun w => spec_MirrorHub a b c d f w
  obtain ⟨hb, eh⟩ : ∃ hb, hubB a b c d f = hb := ⟨_, rfl⟩
  simp only [eh] at K1 K2
  generalize g0 : mhF hb (a) = z0 at K1 K2
  generalize g1 : mhF hb (c) = z1 at K1 K2
  generalize g2 : mhF hb (b) = z2 at K1 K2
  generalize g3 : mhF hb (f) = z3 at K1 K2
  generalize g4 : mhF hb (d) = z4 at K1 K2
  replace g0 := Lib.hid g0
  replace g1 := Lib.hid g1
  replace g2 := Lib.hid g2
  replace g3 := Lib.hid g3
  replace g4 := Lib.hid g4
  obtain ⟨zc, gc⟩ : ∃ zc, mhC hb = zc := ⟨_, rfl⟩
  rw [gc] at K1 K2
  replace gc := Lib.hid gc
  replace eh := Lib.hid eh
  replace K1 := Lib.hid K1
  replace K2 := Lib.hid K2
  go_upto_region 9 with fail
  replace c1 := cell_alloc c1 (by omega) (.cells #[Value.int .i64 a, Value.int .i64 b, Value.int .i64 c, Value.int .i64 d, Value.int .i64 f] 33)
  replace zc1 := lt_cell c1 (by simp)
  replace c2 := cell_alloc c2 (by omega) (.cells #[Value.int .i64 a, Value.int .i64 b, Value.int .i64 c, Value.int .i64 d, Value.int .i64 f] 33)
  replace zc2 := lt_cell c2 (by simp)
  replace c3 := cell_alloc c3 (by omega) (.cells #[Value.int .i64 a, Value.int .i64 b, Value.int .i64 c, Value.int .i64 d, Value.int .i64 f] 33)
  replace zc3 := lt_cell c3 (by simp)
  have c4 := cell_new w9 #[Value.int .i64 a, Value.int .i64 b, Value.int .i64 c, Value.int .i64 d, Value.int .i64 f] 33
  replace bb : Below v.heap.size v (w9.alloc (.cells #[Value.int .i64 a, Value.int .i64 b, Value.int .i64 c, Value.int .i64 d, Value.int .i64 f] 33)) := bb.alloc (by omega) _
  have zc4 := lt_cell c4 (by simp)
  generalize w9.alloc (.cells #[Value.int .i64 a, Value.int .i64 b, Value.int .i64 c, Value.int .i64 d, Value.int .i64 f] 33) = w10 at *
  generalize w9.heap.size = b4 at *
  have zb := bb.size
  go_wp2_with fail
  (with_reducible refine (K1.out _).mono ?_)
  rintro e w11 ⟨rfl, hb1⟩
  first | replace c1 := cell_kept hb1 (by first | omega | (simp; omega)) c1 | replace c1 := cell_kept hb1 (by first | omega | (simp; omega)) (cell_alloc c1 (by omega) _)
  replace zc1 := lt_cell c1 (by simp)
  first | replace c2 := cell_kept hb1 (by first | omega | (simp; omega)) c2 | replace c2 := cell_kept hb1 (by first | omega | (simp; omega)) (cell_alloc c2 (by omega) _)
  replace zc2 := lt_cell c2 (by simp)
  first | replace c3 := cell_kept hb1 (by first | omega | (simp; omega)) c3 | replace c3 := cell_kept hb1 (by first | omega | (simp; omega)) (cell_alloc c3 (by omega) _)
  replace zc3 := lt_cell c3 (by simp)
  first | replace c4 := cell_kept hb1 (by first | omega | (simp; omega)) c4 | replace c4 := cell_kept hb1 (by first | omega | (simp; omega)) (cell_alloc c4 (by omega) _)
  replace zc4 := lt_cell c4 (by simp)
  replace bb : Below v.heap.size v w11 := Below.trans (by (repeat (first | with_reducible exact Below.refl _ _ | with_reducible assumption | ((with_reducible refine Bw.set ?_ ?_); rotate_left; focus omega) | ((with_reducible refine Bw.al ?_ ?_); rotate_left; focus (first | omega | (simp; done) | (simp; omega))) | with_reducible refine Below.drew ?_ | with_reducible refine Bw.dr ?_ _))) (hb1.mono (by first | omega | (simp; omega)))
  have zb := bb.size
  clear hb1
  go_upto_region 10 with fail
  replace c1 := cell_alloc c1 (by omega) (.cells #[Value.int .i64 z0, Value.int .i64 z1, Value.int .i64 z2, Value.int .i64 z3, Value.int .i64 z4] 33)
  replace zc1 := lt_cell c1 (by simp)
  replace c2 := cell_alloc c2 (by omega) (.cells #[Value.int .i64 z0, Value.int .i64 z1, Value.int .i64 z2, Value.int .i64 z3, Value.int .i64 z4] 33)
  replace zc2 := lt_cell c2 (by simp)
  replace c3 := cell_alloc c3 (by omega) (.cells #[Value.int .i64 z0, Value.int .i64 z1, Value.int .i64 z2, Value.int .i64 z3, Value.int .i64 z4] 33)
  replace zc3 := lt_cell c3 (by simp)
  replace c4 := cell_alloc c4 (by omega) (.cells #[Value.int .i64 z0, Value.int .i64 z1, Value.int .i64 z2, Value.int .i64 z3, Value.int .i64 z4] 33)
  replace zc4 := lt_cell c4 (by simp)
  have c5 := cell_new w11 #[Value.int .i64 z0, Value.int .i64 z1, Value.int .i64 z2, Value.int .i64 z3, Value.int .i64 z4] 33
  replace bb : Below v.heap.size v (w11.alloc (.cells #[Value.int .i64 z0, Value.int .i64 z1, Value.int .i64 z2, Value.int .i64 z3, Value.int .i64 z4] 33)) := bb.alloc (by omega) _
  have zc5 := lt_cell c5 (by simp)
  generalize w11.alloc (.cells #[Value.int .i64 z0, Value.int .i64 z1, Value.int .i64 z2, Value.int .i64 z3, Value.int .i64 z4] 33) = w12 at *
  generalize w11.heap.size = b5 at *
  have zb := bb.size
  go_wp2_with fail
  (with_reducible refine (K2.out _).mono ?_)
  rintro e w13 ⟨rfl, hb1⟩
  first | replace c1 := cell_kept hb1 (by first | omega | (simp; omega)) c1 | replace c1 := cell_kept hb1 (by first | omega | (simp; omega)) (cell_alloc c1 (by omega) _)
  replace zc1 := lt_cell c1 (by simp)
  first | replace c2 := cell_kept hb1 (by first | omega | (simp; omega)) c2 | replace c2 := cell_kept hb1 (by first | omega | (simp; omega)) (cell_alloc c2 (by omega) _)
  replace zc2 := lt_cell c2 (by simp)
  first | replace c3 := cell_kept hb1 (by first | omega | (simp; omega)) c3 | replace c3 := cell_kept hb1 (by first | omega | (simp; omega)) (cell_alloc c3 (by omega) _)
  replace zc3 := lt_cell c3 (by simp)
  first | replace c4 := cell_kept hb1 (by first | omega | (simp; omega)) c4 | replace c4 := cell_kept hb1 (by first | omega | (simp; omega)) (cell_alloc c4 (by omega) _)
  replace zc4 := lt_cell c4 (by simp)
  first | replace c5 := cell_kept hb1 (by first | omega | (simp; omega)) c5 | replace c5 := cell_kept hb1 (by first | omega | (simp; omega)) (cell_alloc c5 (by omega) _)
  replace zc5 := lt_cell c5 (by simp)
  replace bb : Below v.heap.size v w13 := Below.trans (by (repeat (first | with_reducible exact Below.refl _ _ | with_reducible assumption | ((with_reducible refine Bw.set ?_ ?_); rotate_left; focus omega) | ((with_reducible refine Bw.al ?_ ?_); rotate_left; focus (first | omega | (simp; done) | (simp; omega))) | with_reducible refine Below.drew ?_ | with_reducible refine Bw.dr ?_ _))) (hb1.mono (by first | omega | (simp; omega)))
  have zb := bb.size
  clear hb1
  go_upto_region 11 with fail
  replace c1 := cell_alloc c1 (by omega) (.cells #[Value.int .i64 z0, Value.int .i64 z1, Value.int .i64 z2, Value.int .i64 z3, Value.int .i64 z4] 33)
  replace zc1 := lt_cell c1 (by simp)
  replace c2 := cell_alloc c2 (by omega) (.cells #[Value.int .i64 z0, Value.int .i64 z1, Value.int .i64 z2, Value.int .i64 z3, Value.int .i64 z4] 33)
  replace zc2 := lt_cell c2 (by simp)
  replace c3 := cell_alloc c3 (by omega) (.cells #[Value.int .i64 z0, Value.int .i64 z1, Value.int .i64 z2, Value.int .i64 z3, Value.int .i64 z4] 33)
  replace zc3 := lt_cell c3 (by simp)
  replace c4 := cell_alloc c4 (by omega) (.cells #[Value.int .i64 z0, Value.int .i64 z1, Value.int .i64 z2, Value.int .i64 z3, Value.int .i64 z4] 33)
  replace zc4 := lt_cell c4 (by simp)
  replace c5 := cell_alloc c5 (by omega) (.cells #[Value.int .i64 z0, Value.int .i64 z1, Value.int .i64 z2, Value.int .i64 z3, Value.int .i64 z4] 33)
  replace zc5 := lt_cell c5 (by simp)
  have c6 := cell_new w13 #[Value.int .i64 z0, Value.int .i64 z1, Value.int .i64 z2, Value.int .i64 z3, Value.int .i64 z4] 33
  replace bb : Below v.heap.size v (w13.alloc (.cells #[Value.int .i64 z0, Value.int .i64 z1, Value.int .i64 z2, Value.int .i64 z3, Value.int .i64 z4] 33)) := bb.alloc (by omega) _
  have zc6 := lt_cell c6 (by simp)
  generalize w13.alloc (.cells #[Value.int .i64 z0, Value.int .i64 z1, Value.int .i64 z2, Value.int .i64 z3, Value.int .i64 z4] 33) = w14 at *
  generalize w13.heap.size = b6 at *
  have zb := bb.size
  go_wp2_with fail
  (with_reducible refine (spec_DrawMostCrosses _ _ us _ HU.out ((HR.out.keep bb).more zb)).mono ?_)
  rintro e w15 ⟨n, rfl, hb1⟩
  first | replace c1 := cell_kept hb1 (by first | omega | (simp; omega)) c1 | replace c1 := cell_kept hb1 (by first | omega | (simp; omega)) (cell_alloc c1 (by omega) _)
  replace zc1 := lt_cell c1 (by simp)
  first | replace c2 := cell_kept hb1 (by first | omega | (simp; omega)) c2 | replace c2 := cell_kept hb1 (by first | omega | (simp; omega)) (cell_alloc c2 (by omega) _)
  replace zc2 := lt_cell c2 (by simp)
  first | replace c3 := cell_kept hb1 (by first | omega | (simp; omega)) c3 | replace c3 := cell_kept hb1 (by first | omega | (simp; omega)) (cell_alloc c3 (by omega) _)
  replace zc3 := lt_cell c3 (by simp)
  first | replace c4 := cell_kept hb1 (by first | omega | (simp; omega)) c4 | replace c4 := cell_kept hb1 (by first | omega | (simp; omega)) (cell_alloc c4 (by omega) _)
  replace zc4 := lt_cell c4 (by simp)
  first | replace c5 := cell_kept hb1 (by first | omega | (simp; omega)) c5 | replace c5 := cell_kept hb1 (by first | omega | (simp; omega)) (cell_alloc c5 (by omega) _)
  replace zc5 := lt_cell c5 (by simp)
  first | replace c6 := cell_kept hb1 (by first | omega | (simp; omega)) c6 | replace c6 := cell_kept hb1 (by first | omega | (simp; omega)) (cell_alloc c6 (by omega) _)
  replace zc6 := lt_cell c6 (by simp)
  replace bb : Below v.heap.size v w15 := bb.trans (hb1.mono zb)
  have zb := bb.size
  clear hb1
  have C1 := fun w => impl_MostCrosses n w
  have C2 := fun w => spec_MostCrosses n w
  obtain ⟨n1, n2, en⟩ : ∃ n1 n2, crossF n = (n1, n2) := ⟨_, _, rfl⟩
  simp only [en] at C1 C2
  clear en
  replace C1 := Lib.hid C1
  replace C2 := Lib.hid C2
  go_wp2_with fail
  (with_reducible refine (C1.out _).mono ?_)
  rintro e wq ⟨rfl, rfl⟩
  go_wp2_with fail
  (with_reducible refine (C2.out _).mono ?_)
  rintro e w16 ⟨rfl, hb1⟩
  first | replace c1 := cell_kept hb1 (by first | omega | (simp; omega)) c1 | replace c1 := cell_kept hb1 (by first | omega | (simp; omega)) (cell_alloc c1 (by omega) _)
  replace zc1 := lt_cell c1 (by simp)
  first | replace c2 := cell_kept hb1 (by first | omega | (simp; omega)) c2 | replace c2 := cell_kept hb1 (by first | omega | (simp; omega)) (cell_alloc c2 (by omega) _)
  replace zc2 := lt_cell c2 (by simp)
  first | replace c3 := cell_kept hb1 (by first | omega | (simp; omega)) c3 | replace c3 := cell_kept hb1 (by first | omega | (simp; omega)) (cell_alloc c3 (by omega) _)
  replace zc3 := lt_cell c3 (by simp)
  first | replace c4 := cell_kept hb1 (by first | omega | (simp; omega)) c4 | replace c4 := cell_kept hb1 (by first | omega | (simp; omega)) (cell_alloc c4 (by omega) _)
  replace zc4 := lt_cell c4 (by simp)
  first | replace c5 := cell_kept hb1 (by first | omega | (simp; omega)) c5 | replace c5 := cell_kept hb1 (by first | omega | (simp; omega)) (cell_alloc c5 (by omega) _)
  replace zc5 := lt_cell c5 (by simp)
  first | replace c6 := cell_kept hb1 (by first | omega | (simp; omega)) c6 | replace c6 := cell_kept hb1 (by first | omega | (simp; omega)) (cell_alloc c6 (by omega) _)
  replace zc6 := lt_cell c6 (by simp)
  replace bb : Below v.heap.size v w16 := Below.trans (by (repeat (first | with_reducible exact Below.refl _ _ | with_reducible assumption | ((with_reducible refine Bw.set ?_ ?_); rotate_left; focus omega) | ((with_reducible refine Bw.al ?_ ?_); rotate_left; focus (first | omega | (simp; done) | (simp; omega))) | with_reducible refine Below.drew ?_ | with_reducible refine Bw.dr ?_ _))) (hb1.mono (by first | omega | (simp; omega)))
  have zb := bb.size
  clear hb1
  go_wp2_with fail
  (with_reducible refine (spec_DrawIsRim _ _ us _ HU.out ((HR.out.keep bb).more zb)).mono ?_)
  rintro e w17 ⟨q0, q1, q2, rfl, hb1⟩
  first | replace c1 := cell_kept hb1 (by first | omega | (simp; omega)) c1 | replace c1 := cell_kept hb1 (by first | omega | (simp; omega)) (cell_alloc c1 (by omega) _)
  replace zc1 := lt_cell c1 (by simp)
  first | replace c2 := cell_kept hb1 (by first | omega | (simp; omega)) c2 | replace c2 := cell_kept hb1 (by first | omega | (simp; omega)) (cell_alloc c2 (by omega) _)
  replace zc2 := lt_cell c2 (by simp)
  first | replace c3 := cell_kept hb1 (by first | omega | (simp; omega)) c3 | replace c3 := cell_kept hb1 (by first | omega | (simp; omega)) (cell_alloc c3 (by omega) _)
  replace zc3 := lt_cell c3 (by simp)
  first | replace c4 := cell_kept hb1 (by first | omega | (simp; omega)) c4 | replace c4 := cell_kept hb1 (by first | omega | (simp; omega)) (cell_alloc c4 (by omega) _)
  replace zc4 := lt_cell c4 (by simp)
  first | replace c5 := cell_kept hb1 (by first | omega | (simp; omega)) c5 | replace c5 := cell_kept hb1 (by first | omega | (simp; omega)) (cell_alloc c5 (by omega) _)
  replace zc5 := lt_cell c5 (by simp)
  first | replace c6 := cell_kept hb1 (by first | omega | (simp; omega)) c6 | replace c6 := cell_kept hb1 (by first | omega | (simp; omega)) (cell_alloc c6 (by omega) _)
  replace zc6 := lt_cell c6 (by simp)
  replace bb : Below v.heap.size v w17 := bb.trans (hb1.mono zb)
  have zb := bb.size
  clear hb1
  go_upto_region 15 with fail
  replace c1 := cell_alloc c1 (by omega) (.cells #[Value.int .i64 q0, Value.int .i64 q1, Value.int .i64 q2] 62)
  replace zc1 := lt_cell c1 (by simp)
  replace c2 := cell_alloc c2 (by omega) (.cells #[Value.int .i64 q0, Value.int .i64 q1, Value.int .i64 q2] 62)
  replace zc2 := lt_cell c2 (by simp)
  replace c3 := cell_alloc c3 (by omega) (.cells #[Value.int .i64 q0, Value.int .i64 q1, Value.int .i64 q2] 62)
  replace zc3 := lt_cell c3 (by simp)
  replace c4 := cell_alloc c4 (by omega) (.cells #[Value.int .i64 q0, Value.int .i64 q1, Value.int .i64 q2] 62)
  replace zc4 := lt_cell c4 (by simp)
  replace c5 := cell_alloc c5 (by omega) (.cells #[Value.int .i64 q0, Value.int .i64 q1, Value.int .i64 q2] 62)
  replace zc5 := lt_cell c5 (by simp)
  replace c6 := cell_alloc c6 (by omega) (.cells #[Value.int .i64 q0, Value.int .i64 q1, Value.int .i64 q2] 62)
  replace zc6 := lt_cell c6 (by simp)
  have c7 := cell_new w17 #[Value.int .i64 q0, Value.int .i64 q1, Value.int .i64 q2] 62
  replace bb : Below v.heap.size v (w17.alloc (.cells #[Value.int .i64 q0, Value.int .i64 q1, Value.int .i64 q2] 62)) := bb.alloc (by omega) _
  have zc7 := lt_cell c7 (by simp)
  generalize w17.alloc (.cells #[Value.int .i64 q0, Value.int .i64 q1, Value.int .i64 q2] 62) = wa at *
  generalize w17.heap.size = b7 at *
  have zb := bb.size
  have R1 := fun w => impl_IsRim q0 q1 q2 w
  have R2 := fun w => spec_IsRim q0 q1 q2 w
  generalize rimB q0 q1 q2 = rb at R1 R2
  replace R1 := Lib.hid R1
  replace R2 := Lib.hid R2
  have cac1 := fun (y : Aft wa) => cell_kept y.hb zc1 c1
  have cac2 := fun (y : Aft wa) => cell_kept y.hb zc2 c2
  have cac3 := fun (y : Aft wa) => cell_kept y.hb zc3 c3
  have cac5 := fun (y : Aft wa) => cell_kept y.hb zc5 c5
  have cac6 := fun (y : Aft wa) => cell_kept y.hb zc6 c6
  have cac7 := fun (y : Aft wa) => cell_kept y.hb zc7 c7
  rcases wb with _ | _
  all_goals
    first | (obtain rfl : yc = 1 := ec.out.symm) | (obtain rfl : yc = 0 := ec.out.symm)
    refine region_aft wa (by kernel_rfl) (by kernel_rfl) (Below.refl _ _) ?_
    repeat (go_big_quiet_step (first | (go_at_call 71; exact aft_call (R1.out _)) | (go_at_call 72; exact aft_call (R2.out _)) | (go_at_call 73; exact aft_call (IW.out _))))
    refine wpQuiet_nil ?_
    rintro w18 ⟨⟨_, hb1⟩, rfl⟩
    clear cac1 cac2 cac3 cac5 cac6 cac7
    first | replace c1 := cell_kept hb1 (by first | omega | (simp; omega)) c1 | replace c1 := cell_kept hb1 (by first | omega | (simp; omega)) (cell_alloc c1 (by omega) _)
    replace zc1 := lt_cell c1 (by simp)
    first | replace c2 := cell_kept hb1 (by first | omega | (simp; omega)) c2 | replace c2 := cell_kept hb1 (by first | omega | (simp; omega)) (cell_alloc c2 (by omega) _)
    replace zc2 := lt_cell c2 (by simp)
    first | replace c4 := cell_kept hb1 (by first | omega | (simp; omega)) c4 | replace c4 := cell_kept hb1 (by first | omega | (simp; omega)) (cell_alloc c4 (by omega) _)
    replace zc4 := lt_cell c4 (by simp)
    first | replace c5 := cell_kept hb1 (by first | omega | (simp; omega)) c5 | replace c5 := cell_kept hb1 (by first | omega | (simp; omega)) (cell_alloc c5 (by omega) _)
    replace zc5 := lt_cell c5 (by simp)
    replace bb : Below v.heap.size v w18 := bb.trans (hb1.mono zb)
    have zb := bb.size
    clear hb1 c3 c6 c7
    go_upto_region 17 with fail
    rcases hb with _ | _
    all_goals
      first | (obtain rfl : zc = 1 := gc.out.symm) | (obtain rfl : zc = 0 := gc.out.symm)
  · go_wp2_with fail
    go_ret
    exact ⟨rfl, bb⟩
  · obtain rfl : z0 = a := g0.out.symm
    obtain rfl : z1 = c := g1.out.symm
    obtain rfl : z2 = b := g2.out.symm
    obtain rfl : z3 = f := g3.out.symm
    obtain rfl : z4 = d := g4.out.symm
    have hh2 : hubB z0 z1 z2 z3 z4 = true := by
      rcases mh_ways z0 z2 z1 z4 z3 with ⟨_, k⟩ | k
      · exact k
      · rw [eh.out] at k; cases k
    have B1 := fun w => impl_MirrorHub z0 z1 z2 z3 z4 w
    simp only [hh2, mhF, mhC, if_true] at B1
    replace B1 := Lib.hid B1
    clear hh2
    go_wp2_with fail
    (with_reducible refine (B1.out _).mono ?_)
    rintro e w20 ⟨rfl, hb1⟩
    first | replace c1 := cell_kept hb1 (by first | omega | (simp; omega)) c1 | replace c1 := cell_kept hb1 (by first | omega | (simp; omega)) (cell_alloc c1 (by omega) _)
    replace zc1 := lt_cell c1 (by simp)
    first | replace c2 := cell_kept hb1 (by first | omega | (simp; omega)) c2 | replace c2 := cell_kept hb1 (by first | omega | (simp; omega)) (cell_alloc c2 (by omega) _)
    replace zc2 := lt_cell c2 (by simp)
    first | replace c4 := cell_kept hb1 (by first | omega | (simp; omega)) c4 | replace c4 := cell_kept hb1 (by first | omega | (simp; omega)) (cell_alloc c4 (by omega) _)
    replace zc4 := lt_cell c4 (by simp)
    first | replace c5 := cell_kept hb1 (by first | omega | (simp; omega)) c5 | replace c5 := cell_kept hb1 (by first | omega | (simp; omega)) (cell_alloc c5 (by omega) _)
    replace zc5 := lt_cell c5 (by simp)
    replace bb : Below v.heap.size v w20 := Below.trans (by (repeat (first | with_reducible exact Below.refl _ _ | with_reducible assumption | ((with_reducible refine Bw.set ?_ ?_); rotate_left; focus omega) | ((with_reducible refine Bw.al ?_ ?_); rotate_left; focus (first | omega | (simp; done) | (simp; omega))) | with_reducible refine Below.drew ?_ | with_reducible refine Bw.dr ?_ _))) (hb1.mono (by first | omega | (simp; omega)))
    have zb := bb.size
    clear hb1
    go_upto_region 19 with fail
    replace c1 := cell_alloc c1 (by omega) (.cells #[Value.int .i64 z0, Value.int .i64 z2, Value.int .i64 z1, Value.int .i64 z4, Value.int .i64 z3] 33)
    replace zc1 := lt_cell c1 (by simp)
    replace c2 := cell_alloc c2 (by omega) (.cells #[Value.int .i64 z0, Value.int .i64 z2, Value.int .i64 z1, Value.int .i64 z4, Value.int .i64 z3] 33)
    replace zc2 := lt_cell c2 (by simp)
    replace c4 := cell_alloc c4 (by omega) (.cells #[Value.int .i64 z0, Value.int .i64 z2, Value.int .i64 z1, Value.int .i64 z4, Value.int .i64 z3] 33)
    replace zc4 := lt_cell c4 (by simp)
    replace c5 := cell_alloc c5 (by omega) (.cells #[Value.int .i64 z0, Value.int .i64 z2, Value.int .i64 z1, Value.int .i64 z4, Value.int .i64 z3] 33)
    replace zc5 := lt_cell c5 (by simp)
    have c8 := cell_new w20 #[Value.int .i64 z0, Value.int .i64 z2, Value.int .i64 z1, Value.int .i64 z4, Value.int .i64 z3] 33
    replace bb : Below v.heap.size v (w20.alloc (.cells #[Value.int .i64 z0, Value.int .i64 z2, Value.int .i64 z1, Value.int .i64 z4, Value.int .i64 z3] 33)) := bb.alloc (by omega) _
    have zc8 := lt_cell c8 (by simp)
    generalize w20.alloc (.cells #[Value.int .i64 z0, Value.int .i64 z2, Value.int .i64 z1, Value.int .i64 z4, Value.int .i64 z3] 33) = w21 at *
    generalize w20.heap.size = b8 at *
    have zb := bb.size
    go_wp2_with fail
    go_ret
    exact ⟨rfl, bb⟩
  · go_upto_region 23 with fail
    obtain rfl : y0 = h := e0.out.symm
    obtain rfl : y1 = r := e1.out.symm
    obtain rfl : y2 = l := e2.out.symm
    obtain rfl : y3 = ro := e3.out.symm
    obtain rfl : y4 = lo := e4.out.symm
    obtain rfl : y5 = rh := e5.out.symm
    obtain rfl : y6 = rd := e6.out.symm
    obtain rfl : y7 = -rf := e7.out.symm
    obtain rfl : y8 = cr := e8.out.symm
    have hw2 : wheelB y0 y1 y2 y3 y4 y5 y6 (-rf) y8 = true ∧ (0 ≤ y4 ∧ y4 ≤ 500) ∧ (0 ≤ y3 ∧ y3 ≤ 500) ∧ (-100 ≤ rf ∧ rf ≤ 100) := by
      rcases mw_ways y0 y2 y1 y4 y3 y5 y6 rf y8 with ⟨_, k, k2⟩ | k
      · exact ⟨k, k2⟩
      · rw [ew.out] at k; cases k
    obtain ⟨hw2, ⟨l1, l2⟩, ⟨l3, l4⟩, ⟨l5, l6⟩⟩ := hw2
    have P1 := fun w => impl_MirrorWheel y0 y1 y2 y3 y4 y5 y6 (-rf) y8 w
    simp only [hw2, mhF, mhC, if_true, Int.neg_neg] at P1
    have P2 := fun w => impl_DishOf y0 y1 y2 y3 y4 y5 y6 (-rf) y8 w
    simp only [dishF, hw2, if_true] at P2
    have hd := ed.out
    simp only [dishF, ew.out, if_true, Prod.mk.injEq] at hd
    obtain ⟨hd1, rfl⟩ := hd
    have hd2 : y4 - y3 - 2 * -rf = -d0 := by omega
    rw [hd2] at P2
    have hd3 : -2000 ≤ d0 ∧ d0 ≤ 2000 := by omega
    replace P1 := Lib.hid P1
    replace P2 := Lib.hid P2
    clear hw2 hd1 hd2
    go_wp2_with fail
    (with_reducible refine (P1.out _).mono ?_)
    rintro e w30 ⟨rfl, hb1⟩
    first | replace c1 := cell_kept hb1 (by first | omega | (simp; omega)) c1 | replace c1 := cell_kept hb1 (by first | omega | (simp; omega)) (cell_alloc c1 (by omega) _)
    replace zc1 := lt_cell c1 (by simp)
    first | replace c2 := cell_kept hb1 (by first | omega | (simp; omega)) c2 | replace c2 := cell_kept hb1 (by first | omega | (simp; omega)) (cell_alloc c2 (by omega) _)
    replace zc2 := lt_cell c2 (by simp)
    first | replace c4 := cell_kept hb1 (by first | omega | (simp; omega)) c4 | replace c4 := cell_kept hb1 (by first | omega | (simp; omega)) (cell_alloc c4 (by omega) _)
    replace zc4 := lt_cell c4 (by simp)
    first | replace c5 := cell_kept hb1 (by first | omega | (simp; omega)) c5 | replace c5 := cell_kept hb1 (by first | omega | (simp; omega)) (cell_alloc c5 (by omega) _)
    replace zc5 := lt_cell c5 (by simp)
    replace bb : Below v.heap.size v w30 := Below.trans (by (repeat (first | with_reducible exact Below.refl _ _ | with_reducible assumption | ((with_reducible refine Bw.set ?_ ?_); rotate_left; focus omega) | ((with_reducible refine Bw.al ?_ ?_); rotate_left; focus (first | omega | (simp; done) | (simp; omega))) | with_reducible refine Below.drew ?_ | with_reducible refine Bw.dr ?_ _))) (hb1.mono (by first | omega | (simp; omega)))
    have zb := bb.size
    clear hb1
    go_upto_region 24 with fail
    replace c1 := cell_alloc c1 (by omega) (.cells #[Value.int .i64 y0, Value.int .i64 y2, Value.int .i64 y1, Value.int .i64 y4, Value.int .i64 y3, Value.int .i64 y5, Value.int .i64 y6, Value.int .i64 rf, Value.int .i64 y8] 64)
    replace zc1 := lt_cell c1 (by simp)
    replace c2 := cell_alloc c2 (by omega) (.cells #[Value.int .i64 y0, Value.int .i64 y2, Value.int .i64 y1, Value.int .i64 y4, Value.int .i64 y3, Value.int .i64 y5, Value.int .i64 y6, Value.int .i64 rf, Value.int .i64 y8] 64)
    replace zc2 := lt_cell c2 (by simp)
    replace c4 := cell_alloc c4 (by omega) (.cells #[Value.int .i64 y0, Value.int .i64 y2, Value.int .i64 y1, Value.int .i64 y4, Value.int .i64 y3, Value.int .i64 y5, Value.int .i64 y6, Value.int .i64 rf, Value.int .i64 y8] 64)
    replace zc4 := lt_cell c4 (by simp)
    replace c5 := cell_alloc c5 (by omega) (.cells #[Value.int .i64 y0, Value.int .i64 y2, Value.int .i64 y1, Value.int .i64 y4, Value.int .i64 y3, Value.int .i64 y5, Value.int .i64 y6, Value.int .i64 rf, Value.int .i64 y8] 64)
    replace zc5 := lt_cell c5 (by simp)
    have c9 := cell_new w30 #[Value.int .i64 y0, Value.int .i64 y2, Value.int .i64 y1, Value.int .i64 y4, Value.int .i64 y3, Value.int .i64 y5, Value.int .i64 y6, Value.int .i64 rf, Value.int .i64 y8] 64
    replace bb : Below v.heap.size v (w30.alloc (.cells #[Value.int .i64 y0, Value.int .i64 y2, Value.int .i64 y1, Value.int .i64 y4, Value.int .i64 y3, Value.int .i64 y5, Value.int .i64 y6, Value.int .i64 rf, Value.int .i64 y8] 64)) := bb.alloc (by omega) _
    have zc9 := lt_cell c9 (by simp)
    generalize w30.alloc (.cells #[Value.int .i64 y0, Value.int .i64 y2, Value.int .i64 y1, Value.int .i64 y4, Value.int .i64 y3, Value.int .i64 y5, Value.int .i64 y6, Value.int .i64 rf, Value.int .i64 y8] 64) = w31 at *
    generalize w30.heap.size = b9 at *
    have zb := bb.size
    go_wp2_with fail
    (with_reducible refine (P2.out _).mono ?_)
    rintro e w32 ⟨rfl, hb1⟩
    first | replace c1 := cell_kept hb1 (by first | omega | (simp; omega)) c1 | replace c1 := cell_kept hb1 (by first | omega | (simp; omega)) (cell_alloc c1 (by omega) _)
    replace zc1 := lt_cell c1 (by simp)
    first | replace c2 := cell_kept hb1 (by first | omega | (simp; omega)) c2 | replace c2 := cell_kept hb1 (by first | omega | (simp; omega)) (cell_alloc c2 (by omega) _)
    replace zc2 := lt_cell c2 (by simp)
    first | replace c4 := cell_kept hb1 (by first | omega | (simp; omega)) c4 | replace c4 := cell_kept hb1 (by first | omega | (simp; omega)) (cell_alloc c4 (by omega) _)
    replace zc4 := lt_cell c4 (by simp)
    first | replace c5 := cell_kept hb1 (by first | omega | (simp; omega)) c5 | replace c5 := cell_kept hb1 (by first | omega | (simp; omega)) (cell_alloc c5 (by omega) _)
    replace zc5 := lt_cell c5 (by simp)
    first | replace c9 := cell_kept hb1 (by first | omega | (simp; omega)) c9 | replace c9 := cell_kept hb1 (by first | omega | (simp; omega)) (cell_alloc c9 (by omega) _)
    replace zc9 := lt_cell c9 (by simp)
    replace bb : Below v.heap.size v w32 := Below.trans (by (repeat (first | with_reducible exact Below.refl _ _ | with_reducible assumption | ((with_reducible refine Bw.set ?_ ?_); rotate_left; focus omega) | ((with_reducible refine Bw.al ?_ ?_); rotate_left; focus (first | omega | (simp; done) | (simp; omega))) | with_reducible refine Below.drew ?_ | with_reducible refine Bw.dr ?_ _))) (hb1.mono (by first | omega | (simp; omega)))
    have zb := bb.size
    clear hb1
    go_wp2_with fail
    go_ret
    exact ⟨rfl, bb⟩
  · obtain rfl : z0 = a := g0.out.symm
    obtain rfl : z1 = c := g1.out.symm
    obtain rfl : z2 = b := g2.out.symm
    obtain rfl : z3 = f := g3.out.symm
    obtain rfl : z4 = d := g4.out.symm
    have hh2 : hubB z0 z1 z2 z3 z4 = true := by
      rcases mh_ways z0 z2 z1 z4 z3 with ⟨_, k⟩ | k
      · exact k
      · rw [eh.out] at k; cases k
    have B1 := fun w => impl_MirrorHub z0 z1 z2 z3 z4 w
    simp only [hh2, mhF, mhC, if_true] at B1
    replace B1 := Lib.hid B1
    clear hh2
    go_wp2_with fail
    (with_reducible refine (B1.out _).mono ?_)
    rintro e w20 ⟨rfl, hb1⟩
    first | replace c1 := cell_kept hb1 (by first | omega | (simp; omega)) c1 | replace c1 := cell_kept hb1 (by first | omega | (simp; omega)) (cell_alloc c1 (by omega) _)
    replace zc1 := lt_cell c1 (by simp)
    first | replace c2 := cell_kept hb1 (by first | omega | (simp; omega)) c2 | replace c2 := cell_kept hb1 (by first | omega | (simp; omega)) (cell_alloc c2 (by omega) _)
    replace zc2 := lt_cell c2 (by simp)
    first | replace c4 := cell_kept hb1 (by first | omega | (simp; omega)) c4 | replace c4 := cell_kept hb1 (by first | omega | (simp; omega)) (cell_alloc c4 (by omega) _)
    replace zc4 := lt_cell c4 (by simp)
    first | replace c5 := cell_kept hb1 (by first | omega | (simp; omega)) c5 | replace c5 := cell_kept hb1 (by first | omega | (simp; omega)) (cell_alloc c5 (by omega) _)
    replace zc5 := lt_cell c5 (by simp)
    replace bb : Below v.heap.size v w20 := Below.trans (by (repeat (first | with_reducible exact Below.refl _ _ | with_reducible assumption | ((with_reducible refine Bw.set ?_ ?_); rotate_left; focus omega) | ((with_reducible refine Bw.al ?_ ?_); rotate_left; focus (first | omega | (simp; done) | (simp; omega))) | with_reducible refine Below.drew ?_ | with_reducible refine Bw.dr ?_ _))) (hb1.mono (by first | omega | (simp; omega)))
    have zb := bb.size
    clear hb1
    go_upto_region 19 with fail
    replace c1 := cell_alloc c1 (by omega) (.cells #[Value.int .i64 z0, Value.int .i64 z2, Value.int .i64 z1, Value.int .i64 z4, Value.int .i64 z3] 33)
    replace zc1 := lt_cell c1 (by simp)
    replace c2 := cell_alloc c2 (by omega) (.cells #[Value.int .i64 z0, Value.int .i64 z2, Value.int .i64 z1, Value.int .i64 z4, Value.int .i64 z3] 33)
    replace zc2 := lt_cell c2 (by simp)
    replace c4 := cell_alloc c4 (by omega) (.cells #[Value.int .i64 z0, Value.int .i64 z2, Value.int .i64 z1, Value.int .i64 z4, Value.int .i64 z3] 33)
    replace zc4 := lt_cell c4 (by simp)
    replace c5 := cell_alloc c5 (by omega) (.cells #[Value.int .i64 z0, Value.int .i64 z2, Value.int .i64 z1, Value.int .i64 z4, Value.int .i64 z3] 33)
    replace zc5 := lt_cell c5 (by simp)
    have c8 := cell_new w20 #[Value.int .i64 z0, Value.int .i64 z2, Value.int .i64 z1, Value.int .i64 z4, Value.int .i64 z3] 33
    replace bb : Below v.heap.size v (w20.alloc (.cells #[Value.int .i64 z0, Value.int .i64 z2, Value.int .i64 z1, Value.int .i64 z4, Value.int .i64 z3] 33)) := bb.alloc (by omega) _
    have zc8 := lt_cell c8 (by simp)
    generalize w20.alloc (.cells #[Value.int .i64 z0, Value.int .i64 z2, Value.int .i64 z1, Value.int .i64 z4, Value.int .i64 z3] 33) = w21 at *
    generalize w20.heap.size = b8 at *
    have zb := bb.size
    go_upto_region 23 with fail
    obtain rfl : y0 = h := e0.out.symm
    obtain rfl : y1 = r := e1.out.symm
    obtain rfl : y2 = l := e2.out.symm
    obtain rfl : y3 = ro := e3.out.symm
    obtain rfl : y4 = lo := e4.out.symm
    obtain rfl : y5 = rh := e5.out.symm
    obtain rfl : y6 = rd := e6.out.symm
    obtain rfl : y7 = -rf := e7.out.symm
    obtain rfl : y8 = cr := e8.out.symm
    have hw2 : wheelB y0 y1 y2 y3 y4 y5 y6 (-rf) y8 = true ∧ (0 ≤ y4 ∧ y4 ≤ 500) ∧ (0 ≤ y3 ∧ y3 ≤ 500) ∧ (-100 ≤ rf ∧ rf ≤ 100) := by
      rcases mw_ways y0 y2 y1 y4 y3 y5 y6 rf y8 with ⟨_, k, k2⟩ | k
      · exact ⟨k, k2⟩
      · rw [ew.out] at k; cases k
    obtain ⟨hw2, ⟨l1, l2⟩, ⟨l3, l4⟩, ⟨l5, l6⟩⟩ := hw2
    have P1 := fun w => impl_MirrorWheel y0 y1 y2 y3 y4 y5 y6 (-rf) y8 w
    simp only [hw2, mhF, mhC, if_true, Int.neg_neg] at P1
    have P2 := fun w => impl_DishOf y0 y1 y2 y3 y4 y5 y6 (-rf) y8 w
    simp only [dishF, hw2, if_true] at P2
    have hd := ed.out
    simp only [dishF, ew.out, if_true, Prod.mk.injEq] at hd
    obtain ⟨hd1, rfl⟩ := hd
    have hd2 : y4 - y3 - 2 * -rf = -d0 := by omega
    rw [hd2] at P2
    have hd3 : -2000 ≤ d0 ∧ d0 ≤ 2000 := by omega
    replace P1 := Lib.hid P1
    replace P2 := Lib.hid P2
    clear hw2 hd1 hd2
    go_wp2_with fail
    (with_reducible refine (P1.out _).mono ?_)
    rintro e w30 ⟨rfl, hb1⟩
    first | replace c1 := cell_kept hb1 (by first | omega | (simp; omega)) c1 | replace c1 := cell_kept hb1 (by first | omega | (simp; omega)) (cell_alloc c1 (by omega) _)
    replace zc1 := lt_cell c1 (by simp)
    first | replace c2 := cell_kept hb1 (by first | omega | (simp; omega)) c2 | replace c2 := cell_kept hb1 (by first | omega | (simp; omega)) (cell_alloc c2 (by omega) _)
    replace zc2 := lt_cell c2 (by simp)
    first | replace c4 := cell_kept hb1 (by first | omega | (simp; omega)) c4 | replace c4 := cell_kept hb1 (by first | omega | (simp; omega)) (cell_alloc c4 (by omega) _)
    replace zc4 := lt_cell c4 (by simp)
    first | replace c5 := cell_kept hb1 (by first | omega | (simp; omega)) c5 | replace c5 := cell_kept hb1 (by first | omega | (simp; omega)) (cell_alloc c5 (by omega) _)
    replace zc5 := lt_cell c5 (by simp)
    replace bb : Below v.heap.size v w30 := Below.trans (by (repeat (first | with_reducible exact Below.refl _ _ | with_reducible assumption | ((with_reducible refine Bw.set ?_ ?_); rotate_left; focus omega) | ((with_reducible refine Bw.al ?_ ?_); rotate_left; focus (first | omega | (simp; done) | (simp; omega))) | with_reducible refine Below.drew ?_ | with_reducible refine Bw.dr ?_ _))) (hb1.mono (by first | omega | (simp; omega)))
    have zb := bb.size
    clear hb1
    go_upto_region 24 with fail
    replace c1 := cell_alloc c1 (by omega) (.cells #[Value.int .i64 y0, Value.int .i64 y2, Value.int .i64 y1, Value.int .i64 y4, Value.int .i64 y3, Value.int .i64 y5, Value.int .i64 y6, Value.int .i64 rf, Value.int .i64 y8] 64)
    replace zc1 := lt_cell c1 (by simp)
    replace c2 := cell_alloc c2 (by omega) (.cells #[Value.int .i64 y0, Value.int .i64 y2, Value.int .i64 y1, Value.int .i64 y4, Value.int .i64 y3, Value.int .i64 y5, Value.int .i64 y6, Value.int .i64 rf, Value.int .i64 y8] 64)
    replace zc2 := lt_cell c2 (by simp)
    replace c4 := cell_alloc c4 (by omega) (.cells #[Value.int .i64 y0, Value.int .i64 y2, Value.int .i64 y1, Value.int .i64 y4, Value.int .i64 y3, Value.int .i64 y5, Value.int .i64 y6, Value.int .i64 rf, Value.int .i64 y8] 64)
    replace zc4 := lt_cell c4 (by simp)
    replace c5 := cell_alloc c5 (by omega) (.cells #[Value.int .i64 y0, Value.int .i64 y2, Value.int .i64 y1, Value.int .i64 y4, Value.int .i64 y3, Value.int .i64 y5, Value.int .i64 y6, Value.int .i64 rf, Value.int .i64 y8] 64)
    replace zc5 := lt_cell c5 (by simp)
    have c9 := cell_new w30 #[Value.int .i64 y0, Value.int .i64 y2, Value.int .i64 y1, Value.int .i64 y4, Value.int .i64 y3, Value.int .i64 y5, Value.int .i64 y6, Value.int .i64 rf, Value.int .i64 y8] 64
    replace bb : Below v.heap.size v (w30.alloc (.cells #[Value.int .i64 y0, Value.int .i64 y2, Value.int .i64 y1, Value.int .i64 y4, Value.int .i64 y3, Value.int .i64 y5, Value.int .i64 y6, Value.int .i64 rf, Value.int .i64 y8] 64)) := bb.alloc (by omega) _
    have zc9 := lt_cell c9 (by simp)
    generalize w30.alloc (.cells #[Value.int .i64 y0, Value.int .i64 y2, Value.int .i64 y1, Value.int .i64 y4, Value.int .i64 y3, Value.int .i64 y5, Value.int .i64 y6, Value.int .i64 rf, Value.int .i64 y8] 64) = w31 at *
    generalize w30.heap.size = b9 at *
    have zb := bb.size
    go_wp2_with fail
    (with_reducible refine (P2.out _).mono ?_)
    rintro e w32 ⟨rfl, hb1⟩
    first | replace c1 := cell_kept hb1 (by first | omega | (simp; omega)) c1 | replace c1 := cell_kept hb1 (by first | omega | (simp; omega)) (cell_alloc c1 (by omega) _)
    replace zc1 := lt_cell c1 (by simp)
    first | replace c2 := cell_kept hb1 (by first | omega | (simp; omega)) c2 | replace c2 := cell_kept hb1 (by first | omega | (simp; omega)) (cell_alloc c2 (by omega) _)
    replace zc2 := lt_cell c2 (by simp)
    first | replace c4 := cell_kept hb1 (by first | omega | (simp; omega)) c4 | replace c4 := cell_kept hb1 (by first | omega | (simp; omega)) (cell_alloc c4 (by omega) _)
    replace zc4 := lt_cell c4 (by simp)
    first | replace c5 := cell_kept hb1 (by first | omega | (simp; omega)) c5 | replace c5 := cell_kept hb1 (by first | omega | (simp; omega)) (cell_alloc c5 (by omega) _)
    replace zc5 := lt_cell c5 (by simp)
    first | replace c9 := cell_kept hb1 (by first | omega | (simp; omega)) c9 | replace c9 := cell_kept hb1 (by first | omega | (simp; omega)) (cell_alloc c9 (by omega) _)
    replace zc9 := lt_cell c9 (by simp)
    replace bb : Below v.heap.size v w32 := Below.trans (by (repeat (first | with_reducible exact Below.refl _ _ | with_reducible assumption | ((with_reducible refine Bw.set ?_ ?_); rotate_left; focus omega) | ((with_reducible refine Bw.al ?_ ?_); rotate_left; focus (first | omega | (simp; done) | (simp; omega))) | with_reducible refine Below.drew ?_ | with_reducible refine Bw.dr ?_ _))) (hb1.mono (by first | omega | (simp; omega)))
    have zb := bb.size
    clear hb1
    go_wp2_with fail
    go_ret
    exact ⟨rfl, bb⟩

end Go.Proofs.Ytpejbmfapdocaaa
