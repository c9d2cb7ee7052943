/- The law FnSorted, walked: it returns true and leaves old memory alone. Condition: the code reads as bytes. -/
import Derived.Test.YtpejbmfapdocaaaSrL
import Derived.Test.YtpejbmfapdocaaaDrN
import Derived.Test.YtpejbmfapdocaaaDrL
namespace Go.Proofs.Ytpejbmfapdocaaa
open Go.RowKit

set_option maxRecDepth 100000 in
set_option maxHeartbeats 4000000 in
theorem law_FnSorted (A : Option Addr) (cap : Nat) (us : List Int) (v : World) (hr : Rd v v.heap.size A (bv us)) (hm : us.length ≤ maxLen) (hby : ∀ k, 0 ≤ us.getD k 0 ∧ us.getD k 0 ≤ 255) :
    Calls Try.prog 8 #[.slice A us.length cap] v fun e w' => e = .returned (.bool true) ∧ Below v.heap.size v w' := by
  unfold maxLen at hm
  by_cases hl : 4096 < us.length
  · have hl2 := Lib.hid (show decide (4096 < (us.length : Int)) = true from decide_eq_true (by omega))
    go_enter Try.func8, Try.ntmps8
    go_wp2_with fail
    (with_reducible refine (big_any A us.length cap true _ hl2.out (by unfold maxLen; omega)).mono ?_)
    rintro e w ⟨rfl, rfl⟩
    go_wp2_with fail
    go_ret
    exact ⟨rfl, Below.refl _ _⟩
  have hl2 := Lib.hid (show decide (4096 < (us.length : Int)) = false from decide_eq_false (by omega))
  have HU := Lib.hid (show Code us from ⟨by omega, hby⟩)
  have HR := Lib.hid hr
  have HL := Lib.hid (show us.length ≤ maxLen by unfold maxLen; omega)
  clear hr hm hby hl
  have bb := Below.refl v.heap.size v
  have zb := bb.size
  go_enter Try.func8, Try.ntmps8
  go_wp2_with fail
  (with_reducible refine (big_any A us.length cap false _ hl2.out HL.out).mono ?_)
  rintro e w ⟨rfl, rfl⟩
  go_wp2_with fail
  (with_reducible refine (spec_DrawSortNumbers _ _ us _ HU.out HR.out).mono ?_)
  rintro e w1 ⟨A0, c0, xs, rfl, hl, hrd, hb1⟩
  have X1 := Lib.hid hrd
  replace bb := hb1
  replace zb := hb1.size
  clear hb1 hrd
  have S1 := fun (W : World) (h : Rd W W.heap.size A0 (iv xs)) => impl_SortNumbers A0 c0 xs W (by omega) h
  have S2 := fun (W : World) (h : Rd W W.heap.size A0 (iv xs)) => spec_SortNumbers A0 c0 xs W (by omega) h
  have hyl := snF_len xs hl
  obtain ⟨ys, yc, es⟩ : ∃ ys yc, snF xs = (ys, yc) := ⟨_, _, rfl⟩
  simp only [es] at S1 S2 hyl
  replace S1 := Lib.hid S1
  replace S2 := Lib.hid S2
  replace es := Lib.hid es
  go_wp2_with fail
  (with_reducible refine (S1.out _ X1.out).mono ?_)
  rintro e w2 ⟨A1, c1, rfl, hw, _, hb1⟩
  have Y2 := Lib.hid hw
  have X2 := Lib.hid (X1.out.now hb1)
  replace bb : Below v.heap.size v w2 := bb.trans (hb1.mono zb)
  replace zb := bb.size
  clear hb1 hw
  go_wp2_with fail
  (with_reducible refine (S2.out _ X2.out).mono ?_)
  rintro e w3 ⟨A2, c2, rfl, hw, _, hb1⟩
  have Z3 := Lib.hid hw.rd
  have Y3 := Lib.hid (Y2.out.below hb1)
  have X3 := Lib.hid (X2.out.now hb1)
  replace bb : Below v.heap.size v w3 := bb.trans (hb1.mono zb)
  replace zb := bb.size
  clear hb1 hw
  go_wp2_with fail
  (with_reducible refine (spec_DrawIsWord _ _ us _ HU.out ((HR.out.keep bb).more zb)).mono ?_)
  rintro e w4 ⟨t, ht, rfl, hb1⟩
  have Z4 := Lib.hid (Z3.out.now hb1)
  have Y4 := Lib.hid (Y3.out.below hb1)
  have X4 := Lib.hid (X3.out.now hb1)
  replace bb : Below v.heap.size v w4 := bb.trans (hb1.mono zb)
  replace zb := bb.size
  clear hb1
  have HT := Lib.hid (show t.size ≤ maxLen by unfold maxLen; omega)
  go_wp2_with fail
  (with_reducible refine (likeInts_same A1 A2 _ _ ys _ (by omega) Y4.out.rd Z4.out).mono ?_)
  rintro e w5 ⟨rfl, hb1⟩
  have Y5 := Lib.hid (Y4.out.below hb1)
  have X5 := Lib.hid (X4.out.now hb1)
  replace bb : Below v.heap.size v w5 := bb.trans (hb1.mono zb)
  replace zb := bb.size
  clear hb1
  have W1 := fun w => impl_IsWord t w HT.out
  have W2 := fun w => spec_IsWord t w HT.out
  generalize wordB t = wb at W1 W2
  replace W1 := Lib.hid W1
  replace W2 := Lib.hid W2
  go_wp2_with fail
  (with_reducible refine (W1.out _).mono ?_)
  rintro e wq ⟨rfl, rfl⟩
  go_wp2_with fail
  (with_reducible refine (W2.out _).mono ?_)
  rintro e wq ⟨rfl, rfl⟩
  by_cases hyc : yc = 0
  rotate_left
  · have g1 : (yc == 0) = false := by simp [hyc]
    go_wp2_with fail
    go_ret
    exact ⟨rfl, bb⟩
  subst hyc
  have HS := Lib.hid (sorts_of es.out)
  have hle := HS.out.le
  have hly : ys.length ≤ 60 := by have := HS.out.len; omega
  go_wp2_with fail
  go_loopw [9] (fun s9 wr => ∃ k : Nat, k ≤ ys.length ∧ s9 = .int .i64 ((k : Int) + 1) ∧ Below w5.heap.size w5 wr) (fun s9 _ => ys.length + 1 - (intOf s9).toNat)
  case atStart => exact ⟨0, Nat.zero_le _, rfl, Below.refl _ _⟩
  case round =>
    obtain ⟨k, hk, rfl, hb⟩ := hrel
    have Y6 := Lib.hid (Y5.out.below hb)
    have X6 := Lib.hid (X5.out.now hb)
    by_cases hlt : k + 1 < ys.length
    · obtain ⟨g, rfl, _, h1, _⟩ := Y6.out (k + 1) _ (iv_get hlt)
      obtain ⟨g', ee, _, h2, _⟩ := Y6.out k _ (iv_get (by omega))
      cases ee
      have hup := HS.out.up k hlt
      generalize ys.getD (k + 1) 0 = p at *
      generalize ys.getD k 0 = q at *
      have q1 : IntKind.i64.wrap ((k : Int) + 1 - 1) = k := by rw [IntWalk.i64_in _ (by omega)]; omega
      have q2 : ((k : Int) + 1).toNat = k + 1 := by omega
      have q3 : (0 : Int) ≤ (k : Int) + 1 := by omega
      have q4 : (k : Int) + 1 < ys.length := by omega
      have q5 : (k : Int) < ys.length := by omega
      go_wp2_with fail
      go_quiet (fail)
      go_wp2_with fail
      go_roundw
      case rel => exact ⟨k + 1, by omega, by go_num, by (repeat (first | with_reducible exact Below.refl _ _ | with_reducible assumption | ((with_reducible refine Bw.set ?_ ?_); rotate_left; focus omega) | ((with_reducible refine Bw.al ?_ ?_); rotate_left; focus (first | omega | (simp; done) | (simp; omega))) | with_reducible refine Below.drew ?_ | with_reducible refine Bw.dr ?_ _))⟩
      case measure => simp [intOf]; omega
    · have g1 : decide ((k : Int) + 1 < ys.length) = false := decide_eq_false (by omega)
      replace bb : Below v.heap.size v wr := bb.trans (hb.mono zb)
      replace zb := bb.size
      clear hb
      obtain ⟨wo, rfl⟩ : ∃ wo : World, wo = wr := ⟨_, rfl⟩
      go_wp2_with fail
      go_loop [10] (fun s10 => ∃ k : Nat, k ≤ xs.length ∧ s10 = .int .i64 k) (fun s10 => xs.length - (intOf s10).toNat)
      case atStart => exact ⟨0, Nat.zero_le _, rfl⟩
      case round =>
        obtain ⟨j, hj, rfl⟩ := hrel
        by_cases hlt2 : j < xs.length
        · obtain ⟨ad, rfl, h1⟩ := X6.out.int hlt2
          have HH := Lib.hid (HS.out.has j hlt2)
          generalize xs.getD j 0 = x at *
          go_wp2_with fail
          (with_reducible refine (hasInt_yes A1 _ ys x _ (by omega) Y6.out.rd HH.out).mono ?_)
          rintro e wq ⟨rfl, rfl⟩
          go_wp2_with fail
          go_round
          case rel => exact ⟨j + 1, by omega, by go_num⟩
          case measure => simp [intOf]; omega
        · obtain rfl : j = xs.length := by omega
          have S3 := fun (W : World) (h : Rd W W.heap.size A1 (iv ys)) => impl_SortNumbers A1 c1 ys W (by omega) h
          simp only [HS.out.again] at S3
          replace S3 := Lib.hid S3
          go_wp2_with fail
          (with_reducible refine (S3.out _ Y6.out.rd).mono ?_)
          rintro e w7 ⟨A3, c3, rfl, hw, _, hb1⟩
          have Z7 := Lib.hid hw.rd
          have Y7 := Lib.hid (Y6.out.below hb1)
          have X7 := Lib.hid (X6.out.now hb1)
          replace bb : Below v.heap.size v w7 := bb.trans (hb1.mono zb)
          replace zb := bb.size
          clear hb1 hw
          go_wp2_with fail
          (with_reducible refine (likeInts_same A3 A1 _ _ ys _ (by omega) Z7.out Y7.out.rd).mono ?_)
          rintro e w8 ⟨rfl, hb1⟩
          have Y8 := Lib.hid (Y7.out.below hb1)
          have X8 := Lib.hid (X7.out.now hb1)
          replace bb : Below v.heap.size v w8 := bb.trans (hb1.mono zb)
          replace zb := bb.size
          clear hb1
          have U1 := fun (W : World) (h : Rd W W.heap.size A1 (iv ys)) => sum_any A1 c1 ys W (by omega) HS.out.vy h
          have U2 := fun (W : World) (h : Rd W W.heap.size A0 (iv xs)) => sum_any A0 c0 xs W hle HS.out.vx h
          rw [HS.out.sum] at U1
          replace U1 := Lib.hid U1
          replace U2 := Lib.hid U2
          go_wp2_with fail
          (with_reducible refine (U1.out _ Y8.out.rd).mono ?_)
          rintro e wq ⟨rfl, rfl⟩
          go_wp2_with fail
          (with_reducible refine (U2.out _ X8.out).mono ?_)
          rintro e wq ⟨rfl, rfl⟩
          go_wp2_with fail
          go_ret
          exact ⟨rfl, bb⟩

end Go.Proofs.Ytpejbmfapdocaaa
