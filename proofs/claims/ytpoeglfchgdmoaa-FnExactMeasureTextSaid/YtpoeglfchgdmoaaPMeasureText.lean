/- The given row of FnExactMeasureText holds: the law returns true for every input and leaves its arguments as they were. No condition. -/
import Derived.Test.YtpoeglfchgdmoaaLMeasureText
import Derived.Test.YtpoeglfchgdmoaaFrame
namespace Go.Proofs.Ytpoeglfchgdmoaa
open Go.ChangeShapes Go.WideShapes Go.ChangeAt Go.RowKit Go.Joins

theorem fnExactMeasureText_holds : Rows.FnExactMeasureTextSaid :=
  OpenClaim.holds_of_wide 3 Try.f3 rfl rfl rfl rfl rfl rfl rfl ⟨rfl, rfl, rfl, rfl, rfl⟩ rfl rfl rfl rfl rfl (by kernel_rfl) Try.func3 (by kernel_rfl)
    (of_decide_eq_true (by kernel_rfl)) (by unfold Func.isWrapper; first | (rw [if_pos (by decide +kernel)]; kernel_rfl) | (rw [if_neg (by decide +kernel)]; exact ⟨rfl, rfl⟩))
    (fun os started H enc _ => law_lifted (s := Rows.fnExactMeasureTextSpec) (conds := Rows.fnExactMeasureTextRow.domain) (tb := 4) Try.func3 (by kernel_rfl)
      (by rw [Try.params3]; intro t ht; simp at ht; subst ht; exact ⟨by kernel_rfl, of_decide_eq_true (by kernel_rfl)⟩) Try.underlying4 rfl rfl
      (fun H ds hd => by
        rw [Try.params3] at hd
        match ds, hd with
        | [d0], _ => rfl)
      (fun os H enc => ChangeSpec.witness6 (enc := enc) (C := Try.checked) false ⟨#[], #[.int .i64 0], []⟩ 8 (by kernel_rfl) (by kernel_rfl) (by kernel_rfl) (by kernel_rfl))
      (fun H enc W base args ds p hval hA hlt => by
        rw [Try.params3] at hA hval
        obtain ⟨v0, d0, rfl, rfl, h0⟩ := trodAll_one hA
        obtain ⟨x0, rfl, hh0⟩ := open_i64 Try.underlying2 (hval 0 2 v0 rfl rfl) h0
        exact law_MeasureText x0 W) os started H enc)
#print axioms fnExactMeasureText_holds
end Go.Proofs.Ytpoeglfchgdmoaa
