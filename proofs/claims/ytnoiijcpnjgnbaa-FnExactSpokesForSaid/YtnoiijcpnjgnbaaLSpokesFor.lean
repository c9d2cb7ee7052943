/- The law FnExactSpokesFor, walked: it returns true and leaves old memory alone. Condition: the slice reads as a list of numbers. -/
import Derived.Test.YtnoiijcpnjgnbaaSpE
import Derived.Test.YtnoiijcpnjgnbaaWhT
namespace Go.Proofs.Ytnoiijcpnjgnbaa
open Go.RowKit

set_option maxHeartbeats 4000000 in
theorem law_SpokesFor (h l r lo ro rh rd rf cr : Int) (A : Option Addr) (c : Nat) (xs : List Int) (w : World) (hr : Rd w w.heap.size A (iv xs)) (hm : xs.length ≤ maxLen) :
    Calls Try.prog 4 #[.agg #[.int .i64 h, .int .i64 l, .int .i64 r, .int .i64 lo, .int .i64 ro, .int .i64 rh, .int .i64 rd, .int .i64 rf, .int .i64 cr], .slice A xs.length c] w fun e w' => e = .returned (.bool true) ∧ Below w.heap.size w w' := by
  unfold maxLen at hm
  have HR := Lib.hid hr
  clear hr
  by_cases hl : 1048576 < xs.length
  · go_enter Try.func4, Try.ntmps4
    go_wp2_with fail
    go_ret
    exact ⟨rfl, by (repeat (first | with_reducible exact Below.refl _ _ | with_reducible assumption | ((with_reducible refine Bw.set ?_ ?_); rotate_left; focus omega) | ((with_reducible refine Bw.al ?_ ?_); rotate_left; focus (first | omega | (simp; done) | (simp; omega))) | with_reducible refine Below.drew ?_ | with_reducible refine Bw.dr ?_ _))⟩
  go_enter Try.func4, Try.ntmps4
  go_wp2_with fail
  refine (toWheel_any _ _ _ _ _ _ _ _ _ _).mono ?_
  rintro e w1 ⟨rfl, hb1⟩
  obtain ⟨c1, f1, zz, bb⟩ := kept1 hb1
  clear hb1
  go_wp2_with fail
  refine (toInt64S_any _ _ _ _ (by omega) ((HR.out.keep bb).more bb.size)).mono ?_
  rintro e w2 ⟨rfl, c2, _, z2, hb2⟩
  have R2 := Lib.hid (Rd.of_cells (B := w2.heap.size) c2 z2)
  clear c2
  replace c1 := cell_kept hb2 (by omega) c1
  replace bb := bb.trans (hb2.mono (by omega))
  replace zz : w.heap.size + 1 ≤ w2.heap.size := Nat.le_trans zz hb2.size
  clear hb2
  go_wp2_with fail
  refine (spec_SpokesFor _ _ _ _ _ _ _ _ _ _ _ _ _ (by omega) R2.out).mono ?_
  rintro e w3 ⟨rfl, hb3⟩
  replace bb : Below w.heap.size w w3 := Below.trans (by (repeat (first | with_reducible exact Below.refl _ _ | with_reducible assumption | ((with_reducible refine Bw.set ?_ ?_); rotate_left; focus omega) | ((with_reducible refine Bw.al ?_ ?_); rotate_left; focus (first | omega | (simp; done) | (simp; omega))) | with_reducible refine Below.drew ?_ | with_reducible refine Bw.dr ?_ _))) (hb3.mono (by first | omega | (simp; done) | (simp; omega)))
  first | replace c1 := cell_kept hb3 (by first | omega | (simp; done) | (simp; omega)) c1 | replace c1 := cell_kept hb3 (by first | omega | (simp; done) | (simp; omega)) (cell_alloc c1 (by first | omega | (simp; done) | (simp; omega)) _)
  replace zc1 := lt_cell c1 (by simp)
  replace zz : w.heap.size + 1 ≤ w3.heap.size := by have := hb3.size; first | omega | (simp at this; omega)
  clear hb3
  clear R2
  go_wp2_with fail
  refine (toInt64S_any _ _ _ _ (by omega) ((HR.out.keep bb).more bb.size)).mono ?_
  rintro e w4 ⟨rfl, c4, _, z4, hb4⟩
  have R4 := Lib.hid (Rd.of_cells (B := w4.heap.size) c4 z4)
  clear c4
  replace c1 := cell_kept hb4 (by omega) c1
  replace bb := bb.trans (hb4.mono (by omega))
  replace zz : w.heap.size + 1 ≤ w4.heap.size := Nat.le_trans zz hb4.size
  clear hb4
  go_wp2_with fail
  refine (toWheel_any _ _ _ _ _ _ _ _ _ _).mono ?_
  rintro e w5 ⟨rfl, hb5⟩
  have R5 := Lib.hid ((R4.out.keep hb5).more hb5.size)
  replace bb := bb.trans (hb5.mono (by omega))
  clear R4 hb5
  go_wp2_with fail
  refine (impl_SpokesFor _ _ _ _ _ _ _ _ _ _ _ _ _ (by omega) R5.out).mono ?_
  rintro e w6 ⟨rfl, hb6⟩
  have R6 := Lib.hid ((R5.out.keep hb6).more hb6.size)
  have z6 := bb.size
  replace bb := bb.trans (hb6.mono (by omega))
  clear R5 hb6
  go_wp2_with fail
  refine (toInt64S_any _ _ _ _ (by omega) ((HR.out.keep bb).more bb.size)).mono ?_
  rintro e w7 ⟨rfl, c7, _, z7, hb7⟩
  have R7 := Lib.hid (Rd.of_cells (B := w7.heap.size) c7 z7)
  have z8 := bb.size
  clear c7
  replace bb := bb.trans (hb7.mono (by omega))
  go_wp2_with fail
  refine (eqInt64S_same _ _ _ _ _ _ (by omega) ((R6.out.keep hb7).more hb7.size) R7.out).mono ?_
  rintro e w8 ⟨rfl, hb8⟩
  have z9 := bb.size
  replace bb := bb.trans (hb8.mono (by omega))
  go_wp2_with fail
  go_ret
  exact ⟨rfl, bb⟩

end Go.Proofs.Ytnoiijcpnjgnbaa
