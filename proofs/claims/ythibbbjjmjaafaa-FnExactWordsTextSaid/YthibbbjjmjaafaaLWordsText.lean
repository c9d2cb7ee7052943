/- The law FnExactWordsText, walked: it returns true and leaves old memory alone. Condition: the slice reads as a list of texts. -/
import Derived.Test.YthibbbjjmjaafaaWt
import Derived.Test.YthibbbjjmjaafaaOwn
namespace Go.Proofs.Ythibbbjjmjaafaa
open Go.RowKit

set_option maxHeartbeats 2000000 in
theorem law_WordsText (A : Option Addr) (c : Nat) (ss : List ByteArray) (w : World) (hr : Rd w w.heap.size A (sv ss)) (hm : ss.length ≤ maxLen) (hs : ∀ k, (sAt ss k).size ≤ maxLen) :
    Calls Try.prog 4 #[.slice A ss.length c] w fun e w' => e = .returned (.bool true) ∧ Below w.heap.size w w' := by
  have HR := Lib.hid hr
  have HS := Lib.hid hs
  have HM := Lib.hid hm
  have hm' : ss.length ≤ 9223372036854775807 := by unfold maxLen at hm; exact hm
  clear hr hs hm
  by_cases h0 : szV 1048576 ss < 0
  · go_enter Try.func4, Try.ntmps4
    go_wp2_with fail
    refine (szStringS_any _ _ _ _ _ (by omega) HM.out HS.out HR.out).mono ?_
    rintro e w1 ⟨rfl, rfl⟩
    go_wp2_with fail
    go_ret
    exact ⟨rfl, by (repeat (first | with_reducible exact Below.refl _ _ | with_reducible assumption | ((with_reducible refine Bw.set ?_ ?_); rotate_left; focus omega) | ((with_reducible refine Bw.al ?_ ?_); rotate_left; focus (first | omega | (simp; done) | (simp; omega))) | with_reducible refine Below.drew ?_ | with_reducible refine Bw.dr ?_ _))⟩
  have HZ := Lib.hid (szV_t (L := 1048576) (ss := ss) (by omega))
  have hl : ss.length ≤ 1048576 := by
    have h1 := HZ.out
    have h2 := sumSz_mono ss (Nat.zero_le ss.length)
    simp only [sumSz] at h2
    omega
  go_enter Try.func4, Try.ntmps4
  go_wp2_with fail
  refine (szStringS_any _ _ _ _ _ (by omega) HM.out HS.out HR.out).mono ?_
  rintro e w1 ⟨rfl, rfl⟩
  go_wp2_with fail
  refine (toStringS_any _ _ _ _ hl HR.out).mono ?_
  rintro e w1 ⟨rfl, c1, _, z1, b1⟩
  have R1 := Lib.hid (Rd.of_cells (B := w1.heap.size) c1 z1)
  clear c1
  go_wp2_with fail
  refine (spec_WordsText _ _ _ _ HM.out HS.out R1.out).mono ?_
  rintro e w2 ⟨rfl, rfl⟩
  go_wp2_with fail
  refine (toStringS_any _ _ _ _ hl (HR.out.now b1)).mono ?_
  rintro e w3 ⟨rfl, c3, _, z3, hb3⟩
  have b3 := b1.trans (hb3.mono b1.size)
  have R3 := Lib.hid (Rd.of_cells (B := w3.heap.size) c3 z3)
  clear c3
  go_wp2_with fail
  refine (impl_WordsText _ _ _ _ HM.out HS.out R3.out).mono ?_
  rintro e w4 ⟨rfl, rfl⟩
  go_wp2_with fail
  refine (toStringS_any _ _ _ _ hl (HR.out.now b3)).mono ?_
  rintro e w5 ⟨rfl, c5, _, z5, hb5⟩
  have b5 := b3.trans (hb5.mono b3.size)
  have R5 := Lib.hid (Rd.of_cells (B := w5.heap.size) c5 z5)
  clear c5
  go_wp2_with fail
  refine (eqStringS_same _ _ _ _ _ _ hl (R3.out.now hb5) R5.out).mono ?_
  rintro e w6 ⟨rfl, hb6⟩
  have b6 := b5.trans (hb6.mono b5.size)
  go_wp2_with fail
  go_ret
  exact ⟨rfl, b6⟩

end Go.Proofs.Ythibbbjjmjaafaa
