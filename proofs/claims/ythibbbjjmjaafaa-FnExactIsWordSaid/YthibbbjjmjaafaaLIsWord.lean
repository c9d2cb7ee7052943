/- The law FnExactIsWord, walked: it returns true and leaves old memory alone. Condition: the text is no longer than a slice can be. -/
import Derived.Test.YthibbbjjmjaafaaWd
namespace Go.Proofs.Ythibbbjjmjaafaa
open Go.RowKit

set_option maxHeartbeats 1000000 in
theorem law_IsWord (s : ByteArray) (w : World) (hs : s.size ≤ maxLen) :
    Calls Try.prog 3 #[.string s] w fun e w' => e = .returned (.bool true) ∧ Below w.heap.size w w' := by
  have hm : s.size ≤ 9223372036854775807 := by unfold maxLen at hs; exact hs
  by_cases hl : 1048576 < s.size
  · clear hs
    go_enter Try.func3, Try.ntmps3
    go_wp2_with fail
    go_ret
    exact ⟨rfl, Below.refl _ _⟩
  have HS := Lib.hid hs
  clear hs
  rcases h1 : wordB s with _ | _
  all_goals
    have H1 := Lib.hid h1
    clear h1
    go_enter Try.func3, Try.ntmps3
    go_wp2_with fail
    refine (spec_IsWord _ _ HS.out).mono ?_
    rintro e w1 ⟨rfl, rfl⟩
    rw [H1.out]
    go_wp2_with fail
    refine (impl_IsWord _ _ HS.out).mono ?_
    rintro e w1 ⟨rfl, rfl⟩
    rw [H1.out]
    go_wp2_with fail
    go_ret
    exact ⟨rfl, Below.refl _ _⟩

end Go.Proofs.Ythibbbjjmjaafaa
