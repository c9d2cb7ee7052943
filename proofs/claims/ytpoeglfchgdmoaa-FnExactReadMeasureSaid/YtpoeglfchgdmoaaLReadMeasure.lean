/- The law FnExactReadMeasure, walked: it returns true and leaves old memory alone. Condition: the text is no longer than a slice can be. -/
import Derived.Test.YtpoeglfchgdmoaaRm
namespace Go.Proofs.Ytpoeglfchgdmoaa
open Go.RowKit

set_option maxHeartbeats 1000000 in
theorem law_ReadMeasure (s : ByteArray) (w : World) (hs : s.size ≤ maxLen) :
    Calls Try.prog 4 #[.string s] w fun e w' => e = .returned (.bool true) ∧ Below w.heap.size w w' := by
  unfold maxLen at hs
  by_cases hl : 1048576 < s.size
  · go_enter Try.func4, Try.ntmps4
    go_wp2_with fail
    go_ret
    exact ⟨rfl, Below.refl _ _⟩
  by_cases hy : ∃ v, isVal v = true ∧ mesB v = s
  · obtain ⟨v, hv, hm⟩ := hy
    have HV := Lib.hid hv
    have HM := Lib.hid hm
    clear hv hm
    go_enter Try.func4, Try.ntmps4
    go_wp2_with fail
    (with_reducible refine (spec_ReadMeasure_y s v _ HV.out HM.out).mono ?_)
    rintro e w1 ⟨rfl, hb1⟩
    go_wp2_with fail
    (with_reducible refine (impl_ReadMeasure_y s v _ HV.out HM.out).mono ?_)
    rintro e w2 ⟨rfl, hb2⟩
    go_wp2_with fail
    go_ret
    exact ⟨rfl, hb1.trans (hb2.mono hb1.size)⟩
  · have HN := Lib.hid (show ∀ v, isVal v = true → mesB v ≠ s from fun v h1 h2 => hy ⟨v, h1, h2⟩)
    have HL := Lib.hid (show s.size ≤ 1048576 by omega)
    clear hy
    go_enter Try.func4, Try.ntmps4
    go_wp2_with fail
    (with_reducible refine (spec_ReadMeasure_n s _ HL.out HN.out).mono ?_)
    rintro e w1 ⟨rfl, hb1⟩
    go_wp2_with fail
    (with_reducible refine (impl_ReadMeasure_n s _ HL.out HN.out).mono ?_)
    rintro e w2 ⟨rfl, hb2⟩
    go_wp2_with fail
    go_ret
    exact ⟨rfl, hb1.trans (hb2.mono hb1.size)⟩

end Go.Proofs.Ytpoeglfchgdmoaa
