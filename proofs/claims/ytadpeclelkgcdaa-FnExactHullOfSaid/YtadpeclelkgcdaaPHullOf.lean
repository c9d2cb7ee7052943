/- The given row of FnExactHullOf holds: the law returns true for every input and leaves its arguments as they were. No condition. -/
import Derived.Test.YtadpeclelkgcdaaLHullOf
import Derived.Test.YtadpeclelkgcdaaFrame
namespace Go.Proofs.Ytadpeclelkgcdaa
open Go.ChangeShapes Go.WideShapes Go.ChangeAt Go.RowKit Go.Joins

theorem fnExactHullOf_holds : Rows.FnExactHullOfSaid :=
  OpenClaim.holds_of_wide 6 Try.f6 rfl rfl rfl rfl rfl rfl rfl ⟨rfl, rfl, rfl, rfl, rfl⟩ rfl rfl rfl rfl rfl (by kernel_rfl) Try.func6 (by kernel_rfl)
    (of_decide_eq_true (by kernel_rfl)) (by unfold Func.isWrapper; first | (rw [if_pos (by decide +kernel)]; kernel_rfl) | (rw [if_neg (by decide +kernel)]; exact ⟨rfl, rfl⟩))
    (fun os started H enc _ => law_lifted (s := Rows.fnExactHullOfSpec) (conds := Rows.fnExactHullOfRow.domain) (tb := 4) Try.func6 (by kernel_rfl)
      (by rw [Try.params6]; intro t ht; simp at ht; subst ht; exact ⟨by kernel_rfl, of_decide_eq_true (by kernel_rfl)⟩) Try.underlying4 rfl rfl
      (fun H ds hd => by
        rw [Try.params6] at hd
        match ds, hd with
        | [d0, d1], _ => rfl)
      (fun os H enc => ChangeSpec.witness6 (enc := enc) (C := Try.checked) false ⟨#[], #[.agg #[.int .i64 0, .int .i64 0], .agg #[.int .i64 0, .int .i64 0]], []⟩ 8 (by kernel_rfl) (by kernel_rfl) (by kernel_rfl) (by kernel_rfl))
      (fun H enc W base args ds p hval hA hlt => by
        rw [Try.params6] at hA hval
        obtain ⟨v0, v1, d0, d1, p0, p1, rfl, rfl, rfl, h0, h1⟩ := trodAll_two hA
        obtain ⟨x00, x01, rfl, hh0⟩ := open_iv (hval 0 24 v0 rfl rfl)
        obtain ⟨x10, x11, rfl, hh1⟩ := open_iv (hval 1 24 v1 rfl rfl)
        exact law_HullOf x00 x01 x10 x11 W) os started H enc)
#print axioms fnExactHullOf_holds
end Go.Proofs.Ytadpeclelkgcdaa
