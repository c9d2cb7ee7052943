/- The given row of FnExactLengthRange holds: the law returns true for every input and leaves its arguments as they were. No condition. -/
import Derived.Test.YtnoiijcpnjgnbaaLLengthRange
import Derived.Test.YtnoiijcpnjgnbaaFrame
namespace Go.Proofs.Ytnoiijcpnjgnbaa
open Go.ChangeShapes Go.WideShapes Go.ChangeAt Go.RowKit Go.Joins

theorem fnExactLengthRange_holds : Rows.FnExactLengthRangeSaid :=
  OpenClaim.holds_of_wide 9 Try.f9 rfl rfl rfl rfl rfl rfl rfl ⟨rfl, rfl, rfl, rfl, rfl⟩ rfl rfl rfl rfl rfl (by kernel_rfl) Try.func9 (by kernel_rfl)
    (of_decide_eq_true (by kernel_rfl)) (by unfold Func.isWrapper; first | (rw [if_pos (by decide +kernel)]; kernel_rfl) | (rw [if_neg (by decide +kernel)]; exact ⟨rfl, rfl⟩))
    (fun os started H enc _ => law_lifted (s := Rows.fnExactLengthRangeSpec) (conds := Rows.fnExactLengthRangeRow.domain) (tb := 4) Try.func9 (by kernel_rfl)
      (by rw [Try.params9]; intro t ht; simp at ht; rcases ht with rfl | rfl | rfl <;> exact ⟨by kernel_rfl, of_decide_eq_true (by kernel_rfl)⟩) Try.underlying4 rfl rfl
      (fun H ds hd => by
        rw [Try.params9] at hd
        match ds, hd with
        | [d0, d1, d2], _ => rfl)
      (fun os H enc => ChangeSpec.witness6 (enc := enc) (C := Try.checked) false ⟨#[], #[.agg #[.int .i64 0, .int .i64 0, .int .i64 0, .int .i64 0, .int .i64 0, .int .i64 0, .int .i64 0, .int .i64 0, .int .i64 0], .bool false, .int .i64 0], []⟩ 8 (by kernel_rfl) (by kernel_rfl) (by kernel_rfl) (by kernel_rfl))
      (fun H enc W base args ds p hval hA hlt => by
        rw [Try.params9] at hA hval
        obtain ⟨v0, v1, v2, d0, d1, d2, p0, p1, p2, rfl, rfl, rfl, h0, h1, h2⟩ := trodAll_three hA
        obtain ⟨x00, x01, x02, x03, x04, x05, x06, x07, x08, rfl, hh0⟩ := open_wheel (hval 0 33 v0 rfl rfl)
        obtain ⟨x1, rfl, _, _⟩ := open_bool Try.underlying4 (hval 1 4 v1 rfl rfl) h1
        obtain ⟨x2, rfl, hh2⟩ := open_i64 Try.underlying2 (hval 2 2 v2 rfl rfl) h2
        exact law_LengthRange x00 x01 x02 x03 x04 x05 x06 x07 x08 x1 x2 W) os started H enc)
#print axioms fnExactLengthRange_holds
end Go.Proofs.Ytnoiijcpnjgnbaa
