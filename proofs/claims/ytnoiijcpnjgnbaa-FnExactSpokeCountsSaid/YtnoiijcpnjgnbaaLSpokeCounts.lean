/- The law FnExactSpokeCounts, walked: it returns true and leaves old memory alone. No condition. -/
import Derived.Test.YtnoiijcpnjgnbaaSpH
import Derived.Test.YtnoiijcpnjgnbaaWhT
namespace Go.Proofs.Ytnoiijcpnjgnbaa
open Go.RowKit

set_option maxHeartbeats 8000000 in
theorem law_SC0 (h l r lo ro rh rd rf cr : Int) (k : wheelB h l r lo ro rh rd rf cr = false) (w : World) :
    Calls Try.prog 10 #[.agg #[.int .i64 h, .int .i64 l, .int .i64 r, .int .i64 lo, .int .i64 ro, .int .i64 rh, .int .i64 rd, .int .i64 rf, .int .i64 cr]] w fun e w' => e = .returned (.bool true) ∧ Below w.heap.size w w' := by
  have HK := Lib.hid k
  clear k
  go_enter Try.func10, Try.ntmps10
  go_wp2_with fail
  refine (toWheel_any _ _ _ _ _ _ _ _ _ _).mono ?_
  rintro e w1 ⟨rfl, hb1⟩
  obtain ⟨c1, f1, zz, bb⟩ := kept1 hb1
  clear hb1 f1
  go_wp2_with fail
  (with_reducible refine (spec_SC0 _ _ _ _ _ _ _ _ _ HK.out _).mono ?_)
  rintro e w2 ⟨rfl, hb2⟩
  replace c1 := cell_kept hb2 (by omega) c1
  replace bb := bb.trans (hb2.mono (by omega))
  replace zz : w.heap.size + 1 ≤ w2.heap.size := Nat.le_trans zz hb2.size
  clear hb2
  go_wp2_with fail
  (with_reducible refine (toWheel_any _ _ _ _ _ _ _ _ _ _).mono ?_)
  rintro e w3 ⟨rfl, hb3⟩
  replace c1 := cell_kept hb3 (by omega) c1
  replace bb := bb.trans (hb3.mono (by omega))
  replace zz : w.heap.size + 1 ≤ w3.heap.size := Nat.le_trans zz hb3.size
  clear hb3
  go_wp2_with fail
  (with_reducible refine (impl_SC0 _ _ _ _ _ _ _ _ _ HK.out _).mono ?_)
  rintro e w4 ⟨rfl, hb4⟩
  replace c1 := cell_kept hb4 (by omega) c1
  replace bb := bb.trans (hb4.mono (by omega))
  replace zz : w.heap.size + 1 ≤ w4.heap.size := Nat.le_trans zz hb4.size
  clear hb4
  go_wp2_with fail
  (with_reducible refine (eqSS0 _).mono ?_)
  rintro e w5 ⟨rfl, hb5⟩
  replace c1 := cell_kept hb5 (by omega) c1
  replace bb := bb.trans (hb5.mono (by omega))
  replace zz : w.heap.size + 1 ≤ w5.heap.size := Nat.le_trans zz hb5.size
  clear hb5
  go_wp2_with fail
  (with_reducible refine (markSS0 _ _).mono ?_)
  rintro e w6 ⟨rfl, rfl⟩
  go_wp2_with fail
  (with_reducible refine (heldSS0 _ _).mono ?_)
  rintro e w7 ⟨rfl, rfl⟩
  go_wp2_with fail
  (with_reducible refine (toWheel_any _ _ _ _ _ _ _ _ _ _).mono ?_)
  rintro e w8 ⟨rfl, hb8⟩
  replace c1 := cell_kept hb8 (by omega) c1
  replace bb := bb.trans (hb8.mono (by omega))
  replace zz : w.heap.size + 1 ≤ w8.heap.size := Nat.le_trans zz hb8.size
  clear hb8
  go_wp2_with fail
  (with_reducible refine (impl_SC0 _ _ _ _ _ _ _ _ _ HK.out _).mono ?_)
  rintro e w9 ⟨rfl, hb9⟩
  replace c1 := cell_kept hb9 (by omega) c1
  replace bb := bb.trans (hb9.mono (by omega))
  replace zz : w.heap.size + 1 ≤ w9.heap.size := Nat.le_trans zz hb9.size
  clear hb9
  go_wp2_with fail
  (with_reducible refine (eqSS0 _).mono ?_)
  rintro e w10 ⟨rfl, hb10⟩
  replace c1 := cell_kept hb10 (by omega) c1
  replace bb := bb.trans (hb10.mono (by omega))
  replace zz : w.heap.size + 1 ≤ w10.heap.size := Nat.le_trans zz hb10.size
  clear hb10
  go_wp2_with fail
  (with_reducible refine (heldSS0 _ _).mono ?_)
  rintro e w11 ⟨rfl, rfl⟩
  go_wp2_with fail
  go_ret
  exact ⟨rfl, bb⟩
set_option maxHeartbeats 8000000 in
theorem law_SC1 (h l r lo ro rh rd rf cr : Int) (a b : Int) (k : wheelB h l r lo ro rh rd rf cr = true) (ha : spLen h l r lo ro rh rd rf cr false = a) (hb : spLen h l r lo ro rh rd rf cr true = b) (hab : a = b) (w : World) :
    Calls Try.prog 10 #[.agg #[.int .i64 h, .int .i64 l, .int .i64 r, .int .i64 lo, .int .i64 ro, .int .i64 rh, .int .i64 rd, .int .i64 rf, .int .i64 cr]] w fun e w' => e = .returned (.bool true) ∧ Below w.heap.size w w' := by
  have HK := Lib.hid k
  have HA := Lib.hid ha
  have HB := Lib.hid hb
  have HAB := Lib.hid hab
  clear k ha hb hab
  go_enter Try.func10, Try.ntmps10
  go_wp2_with fail
  refine (toWheel_any _ _ _ _ _ _ _ _ _ _).mono ?_
  rintro e w1 ⟨rfl, hb1⟩
  obtain ⟨c1, f1, zz, bb⟩ := kept1 hb1
  clear hb1 f1
  go_wp2_with fail
  (with_reducible refine (spec_SC1 _ _ _ _ _ _ _ _ _ _ _ HK.out HA.out HB.out HAB.out _).mono ?_)
  rintro e w2 ⟨S, s, rfl, hs, l0, l1, hb2⟩
  have SG := Lib.hid hs
  replace c1 := cell_kept hb2 (by omega) c1
  replace bb := bb.trans (hb2.mono (by omega))
  replace zz : w.heap.size + 1 ≤ w2.heap.size := Nat.le_trans zz hb2.size
  clear hb2 hs
  go_wp2_with fail
  (with_reducible refine (toWheel_any _ _ _ _ _ _ _ _ _ _).mono ?_)
  rintro e w3 ⟨rfl, hb3⟩
  replace c1 := cell_kept hb3 (by omega) c1
  replace bb := bb.trans (hb3.mono (by omega))
  replace SG := Lib.hid (SG.out.below hb3)
  replace zz : w.heap.size + 1 ≤ w3.heap.size := Nat.le_trans zz hb3.size
  clear hb3
  go_wp2_with fail
  (with_reducible refine (impl_SC1 _ _ _ _ _ _ _ _ _ _ _ HK.out HA.out HB.out HAB.out _).mono ?_)
  rintro e w4 ⟨G, g, rfl, hi, m0, m1, hb4⟩
  have IG := Lib.hid hi
  have HB3 := Lib.hid hb4
  have c3 := Lib.hid c1
  have z3 := zz
  have SG3 := Lib.hid SG.out
  replace c1 := cell_kept hb4 (by omega) c1
  replace bb := bb.trans (hb4.mono (by omega))
  replace SG := Lib.hid (SG.out.below hb4)
  replace zz : w.heap.size + 1 ≤ w4.heap.size := Nat.le_trans zz hb4.size
  clear hb4 hi
  go_wp2_with fail
  (with_reducible refine (eqSS1 _ _ _ _ _ _ _ IG.out SG.out).mono ?_)
  rintro e w5 ⟨rfl, hb5⟩
  replace HB3 := Lib.hid (HB3.out.trans (hb5.mono HB3.out.size))
  replace c1 := cell_kept hb5 (by omega) c1
  replace bb := bb.trans (hb5.mono (by omega))
  replace SG := Lib.hid (SG.out.below hb5)
  replace IG := Lib.hid (IG.out.below hb5)
  replace zz : w.heap.size + 1 ≤ w5.heap.size := Nat.le_trans zz hb5.size
  clear hb5
  go_wp2_with fail
  (with_reducible refine (markSS1 _ _ _ _ _ IG.out).mono ?_)
  rintro e w6 ⟨rfl, hi, hlow⟩
  have HB6 := Lib.hid (hlow _ _ HB3.out HB3.out.size m1)
  replace bb := hlow _ _ bb (by omega) (by omega)
  replace IG := Lib.hid hi
  replace c1 := cell_kept HB6.out (by omega) c3.out
  replace SG := Lib.hid (SG3.out.below HB6.out)
  replace zz : w.heap.size + 1 ≤ w6.heap.size := Nat.le_trans z3 HB6.out.size
  clear hi hlow HB3 HB6 c3 SG3
  go_wp2_with fail
  (with_reducible refine (heldSS1 _ _ _ IG.out).mono ?_)
  rintro e w7 ⟨rfl, rfl⟩
  go_wp2_with fail
  (with_reducible refine (toWheel_any _ _ _ _ _ _ _ _ _ _).mono ?_)
  rintro e w8 ⟨rfl, hb8⟩
  replace c1 := cell_kept hb8 (by omega) c1
  replace bb := bb.trans (hb8.mono (by omega))
  replace SG := Lib.hid (SG.out.below hb8)
  replace IG := Lib.hid (IG.out.below hb8)
  replace zz : w.heap.size + 1 ≤ w8.heap.size := Nat.le_trans zz hb8.size
  clear hb8
  go_wp2_with fail
  (with_reducible refine (impl_SC1 _ _ _ _ _ _ _ _ _ _ _ HK.out HA.out HB.out HAB.out _).mono ?_)
  rintro e w9 ⟨G2, g2, rfl, hi, n0, n1, hb9⟩
  have IG2 := Lib.hid hi
  replace c1 := cell_kept hb9 (by omega) c1
  replace bb := bb.trans (hb9.mono (by omega))
  replace SG := Lib.hid (SG.out.below hb9)
  replace IG := Lib.hid (IG.out.below hb9)
  replace zz : w.heap.size + 1 ≤ w9.heap.size := Nat.le_trans zz hb9.size
  clear hb9 hi
  go_wp2_with fail
  (with_reducible refine (eqSS1 _ _ _ _ _ _ _ IG2.out SG.out).mono ?_)
  rintro e w10 ⟨rfl, hb10⟩
  replace c1 := cell_kept hb10 (by omega) c1
  replace bb := bb.trans (hb10.mono (by omega))
  replace SG := Lib.hid (SG.out.below hb10)
  replace IG := Lib.hid (IG.out.below hb10)
  replace zz : w.heap.size + 1 ≤ w10.heap.size := Nat.le_trans zz hb10.size
  clear hb10
  go_wp2_with fail
  (with_reducible refine (heldSS1 _ _ _ IG.out).mono ?_)
  rintro e w11 ⟨rfl, rfl⟩
  go_wp2_with fail
  go_ret
  exact ⟨rfl, bb⟩
set_option maxHeartbeats 8000000 in
theorem law_SC2 (h l r lo ro rh rd rf cr : Int) (a b : Int) (k : wheelB h l r lo ro rh rd rf cr = true) (ha : spLen h l r lo ro rh rd rf cr false = a) (hb : spLen h l r lo ro rh rd rf cr true = b) (hab : a ≠ b) (w : World) :
    Calls Try.prog 10 #[.agg #[.int .i64 h, .int .i64 l, .int .i64 r, .int .i64 lo, .int .i64 ro, .int .i64 rh, .int .i64 rd, .int .i64 rf, .int .i64 cr]] w fun e w' => e = .returned (.bool true) ∧ Below w.heap.size w w' := by
  have HK := Lib.hid k
  have HA := Lib.hid ha
  have HB := Lib.hid hb
  have HAB := Lib.hid hab
  clear k ha hb hab
  go_enter Try.func10, Try.ntmps10
  go_wp2_with fail
  refine (toWheel_any _ _ _ _ _ _ _ _ _ _).mono ?_
  rintro e w1 ⟨rfl, hb1⟩
  obtain ⟨c1, f1, zz, bb⟩ := kept1 hb1
  clear hb1 f1
  go_wp2_with fail
  (with_reducible refine (spec_SC2 _ _ _ _ _ _ _ _ _ _ _ HK.out HA.out HB.out HAB.out _).mono ?_)
  rintro e w2 ⟨S, s, t, rfl, hs, l0, l1, l2, hb2⟩
  have SG := Lib.hid hs
  replace c1 := cell_kept hb2 (by omega) c1
  replace bb := bb.trans (hb2.mono (by omega))
  replace zz : w.heap.size + 1 ≤ w2.heap.size := Nat.le_trans zz hb2.size
  clear hb2 hs
  go_wp2_with fail
  (with_reducible refine (toWheel_any _ _ _ _ _ _ _ _ _ _).mono ?_)
  rintro e w3 ⟨rfl, hb3⟩
  replace c1 := cell_kept hb3 (by omega) c1
  replace bb := bb.trans (hb3.mono (by omega))
  replace SG := Lib.hid (SG.out.below hb3)
  replace zz : w.heap.size + 1 ≤ w3.heap.size := Nat.le_trans zz hb3.size
  clear hb3
  go_wp2_with fail
  (with_reducible refine (impl_SC2 _ _ _ _ _ _ _ _ _ _ _ HK.out HA.out HB.out HAB.out _).mono ?_)
  rintro e w4 ⟨G, g, k, rfl, hi, m0, m1, m2, hb4⟩
  have IG := Lib.hid hi
  have HB3 := Lib.hid hb4
  have c3 := Lib.hid c1
  have z3 := zz
  have SG3 := Lib.hid SG.out
  replace c1 := cell_kept hb4 (by omega) c1
  replace bb := bb.trans (hb4.mono (by omega))
  replace SG := Lib.hid (SG.out.below hb4)
  replace zz : w.heap.size + 1 ≤ w4.heap.size := Nat.le_trans zz hb4.size
  clear hb4 hi
  go_wp2_with fail
  (with_reducible refine (eqSS2 _ _ _ _ _ _ _ _ _ _ _ IG.out SG.out).mono ?_)
  rintro e w5 ⟨rfl, hb5⟩
  replace HB3 := Lib.hid (HB3.out.trans (hb5.mono HB3.out.size))
  replace c1 := cell_kept hb5 (by omega) c1
  replace bb := bb.trans (hb5.mono (by omega))
  replace SG := Lib.hid (SG.out.below hb5)
  replace IG := Lib.hid (IG.out.below hb5)
  replace zz : w.heap.size + 1 ≤ w5.heap.size := Nat.le_trans zz hb5.size
  clear hb5
  go_wp2_with fail
  (with_reducible refine (markSS2 _ _ _ _ _ _ _ _ IG.out).mono ?_)
  rintro e w6 ⟨rfl, hi, hlow⟩
  have HB6 := Lib.hid (hlow _ _ HB3.out HB3.out.size m1 m2)
  replace bb := hlow _ _ bb (by omega) (by omega) (by omega)
  replace IG := Lib.hid hi
  replace c1 := cell_kept HB6.out (by omega) c3.out
  replace SG := Lib.hid (SG3.out.below HB6.out)
  replace zz : w.heap.size + 1 ≤ w6.heap.size := Nat.le_trans z3 HB6.out.size
  clear hi hlow HB3 HB6 c3 SG3
  go_wp2_with fail
  (with_reducible refine (heldSS2 _ _ _ _ IG.out).mono ?_)
  rintro e w7 ⟨rfl, rfl⟩
  go_wp2_with fail
  (with_reducible refine (toWheel_any _ _ _ _ _ _ _ _ _ _).mono ?_)
  rintro e w8 ⟨rfl, hb8⟩
  replace c1 := cell_kept hb8 (by omega) c1
  replace bb := bb.trans (hb8.mono (by omega))
  replace SG := Lib.hid (SG.out.below hb8)
  replace IG := Lib.hid (IG.out.below hb8)
  replace zz : w.heap.size + 1 ≤ w8.heap.size := Nat.le_trans zz hb8.size
  clear hb8
  go_wp2_with fail
  (with_reducible refine (impl_SC2 _ _ _ _ _ _ _ _ _ _ _ HK.out HA.out HB.out HAB.out _).mono ?_)
  rintro e w9 ⟨G2, g2, k2, rfl, hi, n0, n1, n2, hb9⟩
  have IG2 := Lib.hid hi
  replace c1 := cell_kept hb9 (by omega) c1
  replace bb := bb.trans (hb9.mono (by omega))
  replace SG := Lib.hid (SG.out.below hb9)
  replace IG := Lib.hid (IG.out.below hb9)
  replace zz : w.heap.size + 1 ≤ w9.heap.size := Nat.le_trans zz hb9.size
  clear hb9 hi
  go_wp2_with fail
  (with_reducible refine (eqSS2 _ _ _ _ _ _ _ _ _ _ _ IG2.out SG.out).mono ?_)
  rintro e w10 ⟨rfl, hb10⟩
  replace c1 := cell_kept hb10 (by omega) c1
  replace bb := bb.trans (hb10.mono (by omega))
  replace SG := Lib.hid (SG.out.below hb10)
  replace IG := Lib.hid (IG.out.below hb10)
  replace zz : w.heap.size + 1 ≤ w10.heap.size := Nat.le_trans zz hb10.size
  clear hb10
  go_wp2_with fail
  (with_reducible refine (heldSS2 _ _ _ _ IG.out).mono ?_)
  rintro e w11 ⟨rfl, rfl⟩
  go_wp2_with fail
  go_ret
  exact ⟨rfl, bb⟩
theorem law_SpokeCounts (h l r lo ro rh rd rf cr : Int) (w : World) :
    Calls Try.prog 10 #[.agg #[.int .i64 h, .int .i64 l, .int .i64 r, .int .i64 lo, .int .i64 ro, .int .i64 rh, .int .i64 rd, .int .i64 rf, .int .i64 cr]] w fun e w' => e = .returned (.bool true) ∧ Below w.heap.size w w' := by
  rcases k : wheelB h l r lo ro rh rd rf cr with _ | _
  · exact law_SC0 _ _ _ _ _ _ _ _ _ k _
  · by_cases hab : spLen h l r lo ro rh rd rf cr false = spLen h l r lo ro rh rd rf cr true
    · exact law_SC1 _ _ _ _ _ _ _ _ _ _ _ k rfl rfl hab _
    · exact law_SC2 _ _ _ _ _ _ _ _ _ _ _ k rfl rfl hab _

end Go.Proofs.Ytnoiijcpnjgnbaa
