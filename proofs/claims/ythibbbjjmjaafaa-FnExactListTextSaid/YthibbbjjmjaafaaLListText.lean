/- The law FnExactListText, walked: it returns true and leaves old memory alone. Condition: the slice reads as a list of numbers. -/
import Derived.Test.YthibbbjjmjaafaaLt
namespace Go.Proofs.Ythibbbjjmjaafaa
open Go.RowKit

set_option maxHeartbeats 2000000 in
theorem law_ListText (A : Option Addr) (c : Nat) (xs : List Int) (w : World) (hr : Rd w w.heap.size A (iv xs)) (hm : xs.length ≤ maxLen) :
    Calls Try.prog 7 #[.slice A xs.length c] w fun e w' => e = .returned (.bool true) ∧ Below w.heap.size w w' := by
  have HR := Lib.hid hr
  have HM := Lib.hid hm
  unfold maxLen at hm
  clear hr
  by_cases hl : 1048576 < xs.length
  · go_enter Try.func7, Try.ntmps7
    go_wp2_with fail
    go_ret
    exact ⟨rfl, by (repeat (first | with_reducible exact Below.refl _ _ | with_reducible assumption | ((with_reducible refine Bw.set ?_ ?_); rotate_left; focus omega) | ((with_reducible refine Bw.al ?_ ?_); rotate_left; focus (first | omega | (simp; done) | (simp; omega))) | with_reducible refine Below.drew ?_ | with_reducible refine Bw.dr ?_ _))⟩
  go_enter Try.func7, Try.ntmps7
  go_wp2_with fail
  refine (toInt64S_any _ _ _ _ (by omega) HR.out).mono ?_
  rintro e w1 ⟨rfl, c1, _, z1, b1⟩
  have R1 := Lib.hid (Rd.of_cells (B := w1.heap.size) c1 z1)
  clear c1
  go_wp2_with fail
  refine (spec_ListText _ _ _ _ HM.out R1.out).mono ?_
  rintro e w2 ⟨rfl, hb2⟩
  have b2 := b1.trans (hb2.mono b1.size)
  clear R1
  go_wp2_with fail
  refine (toInt64S_any _ _ _ _ (by omega) (HR.out.now b2)).mono ?_
  rintro e w3 ⟨rfl, c3, _, z3, hb3⟩
  have b3 := b2.trans (hb3.mono b2.size)
  have R3 := Lib.hid (Rd.of_cells (B := w3.heap.size) c3 z3)
  clear c3
  go_wp2_with fail
  refine (impl_ListText _ _ _ _ HM.out R3.out).mono ?_
  rintro e w4 ⟨rfl, hb4⟩
  have b4 := b3.trans (hb4.mono b3.size)
  have R4 := Lib.hid (R3.out.now hb4)
  go_wp2_with fail
  refine (toInt64S_any _ _ _ _ (by omega) (HR.out.now b4)).mono ?_
  rintro e w5 ⟨rfl, c5, _, z5, hb5⟩
  have b5 := b4.trans (hb5.mono b4.size)
  have R5 := Lib.hid (Rd.of_cells (B := w5.heap.size) c5 z5)
  clear c5
  go_wp2_with fail
  refine (eqInt64S_same _ _ _ _ _ _ (by omega) (R4.out.now hb5) R5.out).mono ?_
  rintro e w6 ⟨rfl, hb6⟩
  have b6 := b5.trans (hb6.mono b5.size)
  go_wp2_with fail
  go_ret
  exact ⟨rfl, b6⟩

end Go.Proofs.Ythibbbjjmjaafaa
