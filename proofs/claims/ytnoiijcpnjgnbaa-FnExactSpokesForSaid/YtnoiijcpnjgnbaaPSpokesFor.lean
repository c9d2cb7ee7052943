/- The given row of FnExactSpokesFor holds: the law returns true for every input and leaves its arguments as they were. No condition. -/
import Derived.Test.YtnoiijcpnjgnbaaLSpokesFor
import Derived.Test.YtnoiijcpnjgnbaaFrameS
namespace Go.Proofs.Ytnoiijcpnjgnbaa
open Go.ChangeShapes Go.WideShapes Go.ChangeAt Go.RowKit Go.Joins

theorem fnExactSpokesFor_holds : Rows.FnExactSpokesForSaid :=
  OpenClaim.holds_of_wide 4 Try.f4 rfl rfl rfl rfl rfl rfl rfl ⟨rfl, rfl, rfl, rfl, rfl⟩ rfl rfl rfl rfl rfl (by kernel_rfl) Try.func4 (by kernel_rfl)
    (of_decide_eq_true (by kernel_rfl)) (by unfold Func.isWrapper; first | (rw [if_pos (by decide +kernel)]; kernel_rfl) | (rw [if_neg (by decide +kernel)]; exact ⟨rfl, rfl⟩))
    (fun os started H enc _ => law_lifted (s := Rows.fnExactSpokesForSpec) (conds := Rows.fnExactSpokesForRow.domain) (tb := 4) Try.func4 (by kernel_rfl)
      (by rw [Try.params4]; intro t ht; simp at ht; rcases ht with rfl | rfl <;> exact ⟨by kernel_rfl, of_decide_eq_true (by kernel_rfl)⟩) Try.underlying4 rfl rfl
      (fun H ds hd => by
        rw [Try.params4] at hd
        match ds, hd with
        | [d0, d1], _ => rfl)
      (fun os H enc => ChangeSpec.witness6 (enc := enc) (C := Try.checked) false ⟨#[], #[.agg #[.int .i64 0, .int .i64 0, .int .i64 0, .int .i64 0, .int .i64 0, .int .i64 0, .int .i64 0, .int .i64 0, .int .i64 0], .slice none 0 0], []⟩ 8 (by kernel_rfl) (by kernel_rfl) (by kernel_rfl) (by kernel_rfl))
      (fun H enc W base args ds p hval hA hlt => by
        rw [Try.params4] at hA hval
        obtain ⟨v0, v1, d0, d1, p0, p1, rfl, rfl, rfl, h0, h1⟩ := trodAll_two hA
        obtain ⟨x00, x01, x02, x03, x04, x05, x06, x07, x08, rfl, hh0⟩ := open_wheel (hval 0 33 v0 rfl rfl)
        obtain ⟨A1, c1, x1, rfl, hr1, hm1⟩ := open_intL Try.underlying22 Try.underlying2 (by kernel_rfl) (hval 1 22 v1 rfl rfl) h1 (fun x hx => hlt x (by simp [hx]))
        exact law_SpokesFor x00 x01 x02 x03 x04 x05 x06 x07 x08 A1 c1 x1 W hr1 hm1) os started H enc)
#print axioms fnExactSpokesFor_holds
end Go.Proofs.Ytnoiijcpnjgnbaa
