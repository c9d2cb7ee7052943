/- The given row of FnExactReadHub holds: the law returns true for every input and leaves its arguments as they were. No condition. -/
import Derived.Test.YtpejbmfapdocaaaLReadHub
import Derived.Test.YtpejbmfapdocaaaFrame
import Derived.ChangeMaps5
namespace Go.Proofs.Ytpejbmfapdocaaa
open Go.ChangeShapes Go.WideShapes Go.ChangeAt Go.RowKit Go.Joins

set_option maxRecDepth 100000 in
theorem fnExactReadHub_holds : Rows.FnExactReadHubSaid :=
  OpenClaim.holds_of_wide 13 Try.f13 rfl rfl rfl rfl rfl rfl rfl ⟨rfl, rfl, rfl, rfl, rfl⟩ rfl rfl rfl rfl rfl (by kernel_rfl) Try.func13 (by kernel_rfl)
    (of_decide_eq_true (by kernel_rfl)) (by unfold Func.isWrapper; first | (rw [if_pos (by decide +kernel)]; kernel_rfl) | (rw [if_neg (by decide +kernel)]; exact ⟨rfl, rfl⟩))
    (fun os started H enc _ => law_lifted (s := Rows.fnExactReadHubSpec) (conds := Rows.fnExactReadHubRow.domain) (tb := 4) Try.func13 (by kernel_rfl)
      (by rw [Try.params13]; intro t ht; simp at ht; subst ht; exact ⟨by kernel_rfl, of_decide_eq_true (by kernel_rfl)⟩) Try.underlying4 rfl rfl
      (fun H ds hd => by
        rw [Try.params13] at hd
        match ds, hd with
        | [d0], _ => rfl)
      (fun os H enc => ChangeSpec.witness6 (enc := enc) (C := Try.checked) false ⟨#[], #[.string ByteArray.empty], []⟩ 8 (by kernel_rfl) (by kernel_rfl) (by kernel_rfl) (by kernel_rfl))
      (fun H enc W base args ds p hval hA hlt => by
        rw [Try.params13] at hA hval
        obtain ⟨v0, d0, rfl, rfl, h0⟩ := trodAll_one hA
        obtain ⟨x0, rfl, _, _, hh0⟩ := ChangeMaps.open_string Try.underlying9 (hval 0 9 v0 rfl rfl) h0
        exact law_ReadHub x0 W hh0) os started H enc)
#print axioms fnExactReadHub_holds
end Go.Proofs.Ytpejbmfapdocaaa
