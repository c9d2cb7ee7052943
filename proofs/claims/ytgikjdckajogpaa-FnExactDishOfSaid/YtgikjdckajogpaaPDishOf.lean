/- The given row of FnExactDishOf holds: the law returns true for every input and leaves its arguments as they were. No condition. -/
import Derived.Test.YtgikjdckajogpaaLDishOf
import Derived.Test.YtgikjdckajogpaaFrame
namespace Go.Proofs.Ytgikjdckajogpaa
open Go.ChangeShapes Go.WideShapes Go.ChangeAt Go.RowKit Go.Joins

theorem fnExactDishOf_holds : Rows.FnExactDishOfSaid :=
  OpenClaim.holds_of_wide 8 Try.f8 rfl rfl rfl rfl rfl rfl rfl ⟨rfl, rfl, rfl, rfl, rfl⟩ rfl rfl rfl rfl rfl (by kernel_rfl) Try.func8 (by kernel_rfl)
    (of_decide_eq_true (by kernel_rfl)) (by unfold Func.isWrapper; first | (rw [if_pos (by decide +kernel)]; kernel_rfl) | (rw [if_neg (by decide +kernel)]; exact ⟨rfl, rfl⟩))
    (fun os started H enc _ => law_lifted (s := Rows.fnExactDishOfSpec) (conds := Rows.fnExactDishOfRow.domain) (tb := 4) Try.func8 (by kernel_rfl)
      (by rw [Try.params8]; intro t ht; simp at ht; subst ht; exact ⟨by kernel_rfl, of_decide_eq_true (by kernel_rfl)⟩) Try.underlying4 rfl rfl
      (fun H ds hd => by
        rw [Try.params8] at hd
        match ds, hd with
        | [d0], _ => rfl)
      (fun os H enc => ChangeSpec.witness6 (enc := enc) (C := Try.checked) false ⟨#[], #[.agg #[.int .i64 0, .int .i64 0, .int .i64 0, .int .i64 0, .int .i64 0, .int .i64 0, .int .i64 0, .int .i64 0, .int .i64 0]], []⟩ 8 (by kernel_rfl) (by kernel_rfl) (by kernel_rfl) (by kernel_rfl))
      (fun H enc W base args ds p hval hA hlt => by
        rw [Try.params8] at hA hval
        obtain ⟨v0, d0, rfl, rfl, h0⟩ := trodAll_one hA
        obtain ⟨x00, x01, x02, x03, x04, x05, x06, x07, x08, rfl, hh0⟩ := open_wheel (hval 0 38 v0 rfl rfl)
        exact law_DishOf x00 x01 x02 x03 x04 x05 x06 x07 x08 W) os started H enc)
#print axioms fnExactDishOf_holds
end Go.Proofs.Ytgikjdckajogpaa
