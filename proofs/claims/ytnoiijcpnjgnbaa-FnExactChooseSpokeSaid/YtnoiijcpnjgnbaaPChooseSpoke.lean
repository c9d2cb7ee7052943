/- The given row of FnExactChooseSpoke holds: the law returns true for every input and leaves its arguments as they were. No condition. -/
import Derived.Test.YtnoiijcpnjgnbaaLChooseSpoke
import Derived.Test.YtnoiijcpnjgnbaaFrameS
namespace Go.Proofs.Ytnoiijcpnjgnbaa
open Go.ChangeShapes Go.WideShapes Go.ChangeAt Go.RowKit Go.Joins

theorem fnExactChooseSpoke_holds : Rows.FnExactChooseSpokeSaid :=
  OpenClaim.holds_of_wide 3 Try.f3 rfl rfl rfl rfl rfl rfl rfl ⟨rfl, rfl, rfl, rfl, rfl⟩ rfl rfl rfl rfl rfl (by kernel_rfl) Try.func3 (by kernel_rfl)
    (of_decide_eq_true (by kernel_rfl)) (by unfold Func.isWrapper; first | (rw [if_pos (by decide +kernel)]; kernel_rfl) | (rw [if_neg (by decide +kernel)]; exact ⟨rfl, rfl⟩))
    (fun os started H enc _ => law_lifted (s := Rows.fnExactChooseSpokeSpec) (conds := Rows.fnExactChooseSpokeRow.domain) (tb := 4) Try.func3 (by kernel_rfl)
      (by rw [Try.params3]; intro t ht; simp at ht; rcases ht with rfl | rfl <;> exact ⟨by kernel_rfl, of_decide_eq_true (by kernel_rfl)⟩) Try.underlying4 rfl rfl
      (fun H ds hd => by
        rw [Try.params3] at hd
        match ds, hd with
        | [d0, d1], _ => rfl)
      (fun os H enc => ChangeSpec.witness6 (enc := enc) (C := Try.checked) false ⟨#[], #[.slice none 0 0, .int .i64 0], []⟩ 8 (by kernel_rfl) (by kernel_rfl) (by kernel_rfl) (by kernel_rfl))
      (fun H enc W base args ds p hval hA hlt => by
        rw [Try.params3] at hA hval
        obtain ⟨v0, v1, d0, d1, p0, p1, rfl, rfl, rfl, h0, h1⟩ := trodAll_two hA
        obtain ⟨A0, c0, x0, rfl, hr0, hm0⟩ := open_intL Try.underlying22 Try.underlying2 (by kernel_rfl) (hval 0 22 v0 rfl rfl) h0 (fun x hx => hlt x (by simp [hx]))
        obtain ⟨x1, rfl, hh1⟩ := open_i64 Try.underlying2 (hval 1 2 v1 rfl rfl) h1
        exact law_ChooseSpoke A0 c0 x0 x1 W hr0 hm0) os started H enc)
#print axioms fnExactChooseSpoke_holds
end Go.Proofs.Ytnoiijcpnjgnbaa
