/- The given row of FnExactHubText holds: the law returns true for every input and leaves its arguments as they were. No condition. -/
import Derived.Test.YtpoeglfchgdmoaaLHubText
import Derived.Test.YtpoeglfchgdmoaaFrame
namespace Go.Proofs.Ytpoeglfchgdmoaa
open Go.ChangeShapes Go.WideShapes Go.ChangeAt Go.RowKit Go.Joins

theorem fnExactHubText_holds : Rows.FnExactHubTextSaid :=
  OpenClaim.holds_of_wide 9 Try.f9 rfl rfl rfl rfl rfl rfl rfl ⟨rfl, rfl, rfl, rfl, rfl⟩ rfl rfl rfl rfl rfl (by kernel_rfl) Try.func9 (by kernel_rfl)
    (of_decide_eq_true (by kernel_rfl)) (by unfold Func.isWrapper; first | (rw [if_pos (by decide +kernel)]; kernel_rfl) | (rw [if_neg (by decide +kernel)]; exact ⟨rfl, rfl⟩))
    (fun os started H enc _ => law_lifted (s := Rows.fnExactHubTextSpec) (conds := Rows.fnExactHubTextRow.domain) (tb := 4) Try.func9 (by kernel_rfl)
      (by rw [Try.params9]; intro t ht; simp at ht; subst ht; exact ⟨by kernel_rfl, of_decide_eq_true (by kernel_rfl)⟩) Try.underlying4 rfl rfl
      (fun H ds hd => by
        rw [Try.params9] at hd
        match ds, hd with
        | [d0], _ => rfl)
      (fun os H enc => ChangeSpec.witness6 (enc := enc) (C := Try.checked) false ⟨#[], #[.agg #[.int .i64 0, .int .i64 0, .int .i64 0, .int .i64 0, .int .i64 0]], []⟩ 8 (by kernel_rfl) (by kernel_rfl) (by kernel_rfl) (by kernel_rfl))
      (fun H enc W base args ds p hval hA hlt => by
        rw [Try.params9] at hA hval
        obtain ⟨v0, d0, rfl, rfl, h0⟩ := trodAll_one hA
        obtain ⟨x00, x01, x02, x03, x04, rfl, hh0⟩ := open_hub (hval 0 44 v0 rfl rfl)
        exact law_HubText x00 x01 x02 x03 x04 W) os started H enc)
#print axioms fnExactHubText_holds
end Go.Proofs.Ytpoeglfchgdmoaa
