/- Intervals read: one contract for both sides. Condition: the text has at most 1048576 bytes. -/
import Derived.Test.YtpejbmfapdocaaaIvY
namespace Go.Proofs.Ytpejbmfapdocaaa
open Go.RowKit

theorem iv_cases (s : ByteArray) : (∃ a b, isIv a b = true ∧ ivB a b = s) ∨ (∀ a b, isIv a b = true → ivB a b ≠ s) := by
  by_cases h : ∃ a b, isIv a b = true ∧ ivB a b = s
  · exact .inl h
  · exact .inr fun a b h1 h2 => h ⟨a, b, h1, h2⟩
/-- What both give for a text: the ends and the code. -/
def RdIv (s : ByteArray) (a b c : Int) : Prop := (c = 0 ∧ isIv a b = true ∧ ivB a b = s) ∨ (a = 0 ∧ b = 0 ∧ c = 6 ∧ ∀ a b, isIv a b = true → ivB a b ≠ s)
theorem rdIv_get (s : ByteArray) : ∃ a b c, RdIv s a b c := by
  rcases iv_cases s with ⟨a, b, h1, h2⟩ | h
  · exact ⟨a, b, 0, .inl ⟨rfl, h1, h2⟩⟩
  · exact ⟨0, 0, 6, .inr ⟨rfl, rfl, rfl, h⟩⟩
theorem impl_ReadInterval {s : ByteArray} {a b c : Int} (w : World) (hs : s.size ≤ 1048576) (h : RdIv s a b c) :
    Calls Try.prog 49 #[.string s] w fun e w' => e = .returned (.tuple #[.agg #[.int .i64 a, .int .i64 b], .int .i64 c]) ∧ Below w.heap.size w w' := by
  rcases h with ⟨rfl, h1, h2⟩ | ⟨rfl, rfl, rfl, h⟩
  · exact impl_ReadInterval_y s a b w h1 h2
  · exact impl_ReadInterval_n s w hs h
theorem spec_ReadInterval {s : ByteArray} {a b c : Int} (w : World) (hs : s.size ≤ 1048576) (h : RdIv s a b c) :
    Calls Try.prog 48 #[.string s] w fun e w' => e = .returned (.tuple #[.agg #[.int .i64 a, .int .i64 b], .int .i64 c]) ∧ Below w.heap.size w w' := by
  rcases h with ⟨rfl, h1, h2⟩ | ⟨rfl, rfl, rfl, h⟩
  · exact spec_ReadInterval_y s a b w h1 h2
  · exact spec_ReadInterval_n s w hs h

end Go.Proofs.Ytpejbmfapdocaaa
