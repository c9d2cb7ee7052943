/- The law FnExactHubText, walked: it returns true and leaves old memory alone. No condition. -/
import Derived.Test.YtpoeglfchgdmoaaHbS
import Derived.Test.YtpoeglfchgdmoaaWhT
import Derived.Test.YtpoeglfchgdmoaaRd
namespace Go.Proofs.Ytpoeglfchgdmoaa
open Go.RowKit

set_option maxHeartbeats 1000000 in
theorem law_HubText (h l r lo ro : Int) (w : World) :
    Calls Try.prog 9 #[.agg #[.int .i64 h, .int .i64 l, .int .i64 r, .int .i64 lo, .int .i64 ro]] w fun e w' => e = .returned (.bool true) ∧ Below w.heap.size w w' := by
  have hq : (!(hbF h l r lo ro).1.toList == (hbF h l r lo ro).1.toList) = false := by simp
  go_enter Try.func9, Try.ntmps9
  go_wp2_with fail
  (with_reducible refine (toHub_any _ _ _ _ _ _).mono ?_)
  rintro e w1 ⟨rfl, hb1⟩
  obtain ⟨c1, f1, zz, bb⟩ := kept1 hb1
  clear hb1
  go_wp2_with fail
  refine (spec_HubText _ _ _ _ _ _).mono ?_
  rintro e w2 ⟨rfl, hb2⟩
  replace bb : Below w.heap.size w w2 := Below.trans (by (repeat (first | with_reducible exact Below.refl _ _ | with_reducible assumption | ((with_reducible refine Bw.set ?_ ?_); rotate_left; focus omega) | ((with_reducible refine Bw.al ?_ ?_); rotate_left; focus (first | omega | (simp; done) | (simp; omega))) | with_reducible refine Below.drew ?_ | with_reducible refine Bw.dr ?_ _))) (hb2.mono (by first | omega | (simp; done) | (simp; omega)))
  first | replace c1 := cell_kept hb2 (by first | omega | (simp; done) | (simp; omega)) c1 | replace c1 := cell_kept hb2 (by first | omega | (simp; done) | (simp; omega)) (cell_alloc c1 (by first | omega | (simp; done) | (simp; omega)) _)
  replace zc1 := lt_cell c1 (by simp)
  replace zz : w.heap.size + 1 ≤ w2.heap.size := by have := hb2.size; first | omega | (simp at this; omega)
  clear hb2
  go_wp2_with fail
  refine (toHub_any _ _ _ _ _ _).mono ?_
  rintro e w3 ⟨rfl, hb3⟩
  replace bb : Below w.heap.size w w3 := Below.trans (by (repeat (first | with_reducible exact Below.refl _ _ | with_reducible assumption | ((with_reducible refine Bw.set ?_ ?_); rotate_left; focus omega) | ((with_reducible refine Bw.al ?_ ?_); rotate_left; focus (first | omega | (simp; done) | (simp; omega))) | with_reducible refine Below.drew ?_ | with_reducible refine Bw.dr ?_ _))) (hb3.mono (by first | omega | (simp; done) | (simp; omega)))
  first | replace c1 := cell_kept hb3 (by first | omega | (simp; done) | (simp; omega)) c1 | replace c1 := cell_kept hb3 (by first | omega | (simp; done) | (simp; omega)) (cell_alloc c1 (by first | omega | (simp; done) | (simp; omega)) _)
  replace zc1 := lt_cell c1 (by simp)
  replace zz : w.heap.size + 1 ≤ w3.heap.size := by have := hb3.size; first | omega | (simp at this; omega)
  clear hb3
  go_wp2_with fail
  refine (impl_HubText _ _ _ _ _ _).mono ?_
  rintro e w4 ⟨rfl, hb4⟩
  replace bb : Below w.heap.size w w4 := Below.trans (by (repeat (first | with_reducible exact Below.refl _ _ | with_reducible assumption | ((with_reducible refine Bw.set ?_ ?_); rotate_left; focus omega) | ((with_reducible refine Bw.al ?_ ?_); rotate_left; focus (first | omega | (simp; done) | (simp; omega))) | with_reducible refine Below.drew ?_ | with_reducible refine Bw.dr ?_ _))) (hb4.mono (by first | omega | (simp; done) | (simp; omega)))
  first | replace c1 := cell_kept hb4 (by first | omega | (simp; done) | (simp; omega)) c1 | replace c1 := cell_kept hb4 (by first | omega | (simp; done) | (simp; omega)) (cell_alloc c1 (by first | omega | (simp; done) | (simp; omega)) _)
  replace zc1 := lt_cell c1 (by simp)
  replace zz : w.heap.size + 1 ≤ w4.heap.size := by have := hb4.size; first | omega | (simp at this; omega)
  clear hb4
  go_wp2_with fail
  go_ret
  exact ⟨rfl, by (repeat (first | with_reducible exact Below.refl _ _ | with_reducible assumption | ((with_reducible refine Bw.set ?_ ?_); rotate_left; focus omega) | ((with_reducible refine Bw.al ?_ ?_); rotate_left; focus (first | omega | (simp; done) | (simp; omega))) | with_reducible refine Below.drew ?_ | with_reducible refine Bw.dr ?_ _))⟩

end Go.Proofs.Ytpoeglfchgdmoaa
