/- The laws' own small functions. Conditions: those that each theorem names. -/
import Derived.Test.YtjfhhdplgacnhaaDr
import Derived.Laws.BitsLemmas
import Derived.Laws.Bits64
namespace Go.Proofs.Ytjfhhdplgacnhaa
open Go.RowKit

theorem big_any (A : Option Addr) (n c : Nat) (b : Bool) (w : World) (h : decide (4096 < (n : Int)) = b) (hn : n ≤ maxLen) : Calls Try.prog 6 #[.slice A n c] w fun e w' => e = .returned (.bool b) ∧ w = w' := by
  unfold maxLen at hn
  go_enter Try.func6, Try.ntmps6
  go_wp2_with fail
  go_ret
  exact ⟨rfl, rfl⟩

end Go.Proofs.Ytjfhhdplgacnhaa
