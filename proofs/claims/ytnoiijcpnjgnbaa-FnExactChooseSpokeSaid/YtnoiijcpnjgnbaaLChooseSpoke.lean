/- The law FnExactChooseSpoke, walked: it returns true and leaves old memory alone. Condition: the slice reads as a list of numbers. -/
import Derived.Test.YtnoiijcpnjgnbaaSpB
namespace Go.Proofs.Ytnoiijcpnjgnbaa
open Go.RowKit

set_option maxHeartbeats 2000000 in
theorem law_ChooseSpoke (A : Option Addr) (c : Nat) (xs : List Int) (L : Int) (w : World) (h : Rd w w.heap.size A (iv xs)) (hm : xs.length ≤ maxLen) :
    Calls Try.prog 3 #[.slice A xs.length c, .int .i64 L] w fun e w' => e = .returned (.bool true) ∧ Below w.heap.size w w' := by
  unfold maxLen at hm
  have HR := Lib.hid h
  clear h
  by_cases hl : 1048576 < xs.length
  · go_enter Try.func3, Try.ntmps3
    go_wp2_with fail
    go_ret
    exact ⟨rfl, by (repeat (first | with_reducible exact Below.refl _ _ | with_reducible assumption | ((with_reducible refine Bw.set ?_ ?_); rotate_left; focus omega) | ((with_reducible refine Bw.al ?_ ?_); rotate_left; focus (first | omega | (simp; done) | (simp; omega))) | with_reducible refine Below.drew ?_ | with_reducible refine Bw.dr ?_ _))⟩
  go_enter Try.func3, Try.ntmps3
  go_wp2_with fail
  refine (toInt64S_any _ _ _ _ (by omega) HR.out).mono ?_
  rintro e w1 ⟨rfl, c1, _, z1, b1⟩
  have R1 := Lib.hid (Rd.of_cells (B := w1.heap.size) c1 z1)
  clear c1
  go_wp2_with fail
  refine (spec_ChooseSpoke _ _ _ _ _ (by omega) R1.out).mono ?_
  rintro e w2 ⟨rfl, hb2⟩
  have b2 := b1.trans (hb2.mono b1.size)
  have z2 := hb2.size
  clear R1
  go_wp2_with fail
  refine (toInt64S_any _ _ _ _ (by omega) ((HR.out.keep b2).more b2.size)).mono ?_
  rintro e w3 ⟨rfl, c3, _, z3, hb3⟩
  have b3 := b2.trans (hb3.mono b2.size)
  have R3 := Lib.hid (Rd.of_cells (B := w3.heap.size) c3 z3)
  clear c3
  go_wp2_with fail
  refine (impl_ChooseSpoke _ _ _ _ _ (by omega) R3.out).mono ?_
  rintro e w4 ⟨rfl, hb4⟩
  have b4 := b3.trans (hb4.mono b3.size)
  have z4 := hb4.size
  go_wp2_with fail
  refine (toInt64S_any _ _ _ _ (by omega) ((HR.out.keep b4).more b4.size)).mono ?_
  rintro e w5 ⟨rfl, c5, _, z5, hb5⟩
  have b5 := b4.trans (hb5.mono b4.size)
  have R5 := Lib.hid (Rd.of_cells (B := w5.heap.size) c5 z5)
  clear c5
  go_wp2_with fail
  refine (eqInt64S_same _ _ _ _ _ _ (by omega) ((((R3.out.keep hb4).more z4).keep hb5).more hb5.size) R5.out).mono ?_
  rintro e w6 ⟨rfl, hb6⟩
  have b6 := b5.trans (hb6.mono b5.size)
  go_wp2_with fail
  go_ret
  exact ⟨rfl, b6⟩

end Go.Proofs.Ytnoiijcpnjgnbaa
