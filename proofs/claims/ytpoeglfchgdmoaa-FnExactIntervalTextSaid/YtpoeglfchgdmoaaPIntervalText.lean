/- The given row of FnExactIntervalText holds: the law returns true for every input and leaves its arguments as they were. No condition. -/
import Derived.Test.YtpoeglfchgdmoaaLIntervalText
import Derived.Test.YtpoeglfchgdmoaaFrame
namespace Go.Proofs.Ytpoeglfchgdmoaa
open Go.ChangeShapes Go.WideShapes Go.ChangeAt Go.RowKit Go.Joins

theorem fnExactIntervalText_holds : Rows.FnExactIntervalTextSaid :=
  OpenClaim.holds_of_wide 6 Try.f6 rfl rfl rfl rfl rfl rfl rfl ⟨rfl, rfl, rfl, rfl, rfl⟩ rfl rfl rfl rfl rfl (by kernel_rfl) Try.func6 (by kernel_rfl)
    (of_decide_eq_true (by kernel_rfl)) (by unfold Func.isWrapper; first | (rw [if_pos (by decide +kernel)]; kernel_rfl) | (rw [if_neg (by decide +kernel)]; exact ⟨rfl, rfl⟩))
    (fun os started H enc _ => law_lifted (s := Rows.fnExactIntervalTextSpec) (conds := Rows.fnExactIntervalTextRow.domain) (tb := 4) Try.func6 (by kernel_rfl)
      (by rw [Try.params6]; intro t ht; simp at ht; subst ht; exact ⟨by kernel_rfl, of_decide_eq_true (by kernel_rfl)⟩) Try.underlying4 rfl rfl
      (fun H ds hd => by
        rw [Try.params6] at hd
        match ds, hd with
        | [d0], _ => rfl)
      (fun os H enc => ChangeSpec.witness6 (enc := enc) (C := Try.checked) false ⟨#[], #[.agg #[.int .i64 0, .int .i64 0]], []⟩ 8 (by kernel_rfl) (by kernel_rfl) (by kernel_rfl) (by kernel_rfl))
      (fun H enc W base args ds p hval hA hlt => by
        rw [Try.params6] at hA hval
        obtain ⟨v0, d0, rfl, rfl, h0⟩ := trodAll_one hA
        obtain ⟨x00, x01, rfl, hh0⟩ := open_iv (hval 0 33 v0 rfl rfl)
        exact law_IntervalText x00 x01 W) os started H enc)
#print axioms fnExactIntervalText_holds
end Go.Proofs.Ytpoeglfchgdmoaa
