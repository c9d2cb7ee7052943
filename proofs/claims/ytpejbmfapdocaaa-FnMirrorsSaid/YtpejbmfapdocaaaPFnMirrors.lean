/- The given row of FnMirrors holds: the law returns true for every input and leaves its arguments as they were. No condition. -/
import Derived.Test.YtpejbmfapdocaaaLFnMirrors
import Derived.Test.YtpejbmfapdocaaaFrameB
namespace Go.Proofs.Ytpejbmfapdocaaa
open Go.ChangeShapes Go.WideShapes Go.ChangeAt Go.RowKit Go.Joins

set_option maxRecDepth 100000 in
theorem fnMirrors_holds : Rows.FnMirrorsSaid :=
  OpenClaim.holds_of_wide 9 Try.f9 rfl rfl rfl rfl rfl rfl rfl ⟨rfl, rfl, rfl, rfl, rfl⟩ rfl rfl rfl rfl rfl (by kernel_rfl) Try.func9 (by kernel_rfl)
    (of_decide_eq_true (by kernel_rfl)) (by unfold Func.isWrapper; first | (rw [if_pos (by decide +kernel)]; kernel_rfl) | (rw [if_neg (by decide +kernel)]; exact ⟨rfl, rfl⟩))
    (fun os started H enc _ => law_lifted (s := Rows.fnMirrorsSpec) (conds := Rows.fnMirrorsRow.domain) (tb := 4) Try.func9 (by kernel_rfl)
      (by rw [Try.params9]; intro t ht; simp at ht; subst ht; exact ⟨by kernel_rfl, of_decide_eq_true (by kernel_rfl)⟩) Try.underlying4 rfl rfl
      (fun H ds hd => by
        rw [Try.params9] at hd
        match ds, hd with
        | [d0], _ => rfl)
      (fun os H enc => ChangeSpec.witness6 (enc := enc) (C := Try.checked) false ⟨#[], #[.slice none 0 0], []⟩ 8 (by kernel_rfl) (by kernel_rfl) (by kernel_rfl) (by kernel_rfl))
      (fun H enc W base args ds p hval hA hlt => by
        rw [Try.params9] at hA hval
        obtain ⟨v0, d0, rfl, rfl, h0⟩ := trodAll_one hA
        obtain ⟨A0, c0, x0, rfl, hr0, hm0, hb0⟩ := open_bytL Try.underlying22 Try.underlying5 (by kernel_rfl) (hval 0 22 v0 rfl rfl) h0 (fun x hx => hlt x (by simp [hx]))
        exact law_FnMirrors A0 c0 x0 W hr0 hm0 hb0) os started H enc)
#print axioms fnMirrors_holds
end Go.Proofs.Ytpejbmfapdocaaa
