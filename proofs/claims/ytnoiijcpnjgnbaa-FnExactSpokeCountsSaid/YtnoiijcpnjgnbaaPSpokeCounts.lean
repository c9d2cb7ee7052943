/- The given row of FnExactSpokeCounts holds: the law returns true for every input and leaves its arguments as they were. No condition. -/
import Derived.Test.YtnoiijcpnjgnbaaLSpokeCounts
import Derived.Test.YtnoiijcpnjgnbaaFrame
namespace Go.Proofs.Ytnoiijcpnjgnbaa
open Go.ChangeShapes Go.WideShapes Go.ChangeAt Go.RowKit Go.Joins

theorem fnExactSpokeCounts_holds : Rows.FnExactSpokeCountsSaid :=
  OpenClaim.holds_of_wide 10 Try.f10 rfl rfl rfl rfl rfl rfl rfl ⟨rfl, rfl, rfl, rfl, rfl⟩ rfl rfl rfl rfl rfl (by kernel_rfl) Try.func10 (by kernel_rfl)
    (of_decide_eq_true (by kernel_rfl)) (by unfold Func.isWrapper; first | (rw [if_pos (by decide +kernel)]; kernel_rfl) | (rw [if_neg (by decide +kernel)]; exact ⟨rfl, rfl⟩))
    (fun os started H enc _ => law_lifted (s := Rows.fnExactSpokeCountsSpec) (conds := Rows.fnExactSpokeCountsRow.domain) (tb := 4) Try.func10 (by kernel_rfl)
      (by rw [Try.params10]; intro t ht; simp at ht; subst ht; exact ⟨by kernel_rfl, of_decide_eq_true (by kernel_rfl)⟩) Try.underlying4 rfl rfl
      (fun H ds hd => by
        rw [Try.params10] at hd
        match ds, hd with
        | [d0], _ => rfl)
      (fun os H enc => ChangeSpec.witness6 (enc := enc) (C := Try.checked) false ⟨#[], #[.agg #[.int .i64 0, .int .i64 0, .int .i64 0, .int .i64 0, .int .i64 0, .int .i64 0, .int .i64 0, .int .i64 0, .int .i64 0]], []⟩ 8 (by kernel_rfl) (by kernel_rfl) (by kernel_rfl) (by kernel_rfl))
      (fun H enc W base args ds p hval hA hlt => by
        rw [Try.params10] at hA hval
        obtain ⟨v0, d0, rfl, rfl, h0⟩ := trodAll_one hA
        obtain ⟨x00, x01, x02, x03, x04, x05, x06, x07, x08, rfl, hh0⟩ := open_wheel (hval 0 33 v0 rfl rfl)
        exact law_SpokeCounts x00 x01 x02 x03 x04 x05 x06 x07 x08 W) os started H enc)
#print axioms fnExactSpokeCounts_holds
end Go.Proofs.Ytnoiijcpnjgnbaa
