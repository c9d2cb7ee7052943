/- The given row of FnExactConstants holds: the law returns true for every input and leaves its arguments as they were. No condition. -/
import Derived.Test.YtadpeclelkgcdaaLConstants
import Derived.Test.YtadpeclelkgcdaaFrame
namespace Go.Proofs.Ytadpeclelkgcdaa
open Go.ChangeShapes Go.WideShapes Go.ChangeAt Go.RowKit Go.Joins

theorem fnExactConstants_holds : Rows.FnExactConstantsSaid :=
  OpenClaim.holds_of_wide 3 Try.f3 rfl rfl rfl rfl rfl rfl rfl ⟨rfl, rfl, rfl, rfl, rfl⟩ rfl rfl rfl rfl rfl (by kernel_rfl) Try.func3 (by kernel_rfl)
    (of_decide_eq_true (by kernel_rfl)) (by unfold Func.isWrapper; first | (rw [if_pos (by decide +kernel)]; kernel_rfl) | (rw [if_neg (by decide +kernel)]; exact ⟨rfl, rfl⟩))
    (fun os started H enc _ => law_lifted (s := Rows.fnExactConstantsSpec) (conds := Rows.fnExactConstantsRow.domain) (tb := 4) Try.func3 (by kernel_rfl)
      (by rw [Try.params3]; intro t ht; simp at ht) Try.underlying4 rfl rfl
      (fun H ds hd => by
        rw [Try.params3] at hd
        match ds, hd with
        | [], _ => rfl)
      (fun os H enc => ChangeSpec.witness6 (enc := enc) (C := Try.checked) false ⟨#[], #[], []⟩ 8 (by kernel_rfl) (by kernel_rfl) (by kernel_rfl) (by kernel_rfl))
      (fun H enc W base args ds p hval hA hlt => by
        rw [Try.params3] at hA hval
        obtain ⟨rfl, rfl, rfl⟩ := trodAll_none hA
        exact law_Constants  W) os started H enc)
#print axioms fnExactConstants_holds
end Go.Proofs.Ytadpeclelkgcdaa
