/- WordsText of the program and the reference. Conditions: those that each theorem names. -/
import Derived.Test.YtpejbmfapdocaaaSt
namespace Go.Proofs.Ytpejbmfapdocaaa
open Go.RowKit

def comma : ByteArray := { data := #[44] }
def dash : ByteArray := { data := #[45] }
def wtF (ss : List ByteArray) : ByteArray × Int :=
  if allW ss then (if 60 < ss.length then (ByteArray.empty, 3) else if ss.length = 0 then (dash, 0) else (joinB ss comma ss.length, 0)) else (ByteArray.empty, 1)
theorem wtF_n {ss : List ByteArray} (h : allW ss = false) : wtF ss = (ByteArray.empty, 1) := by rw [wtF, h]; rfl
theorem wtF_l {ss : List ByteArray} (h : allW ss = true) (h2 : 60 < ss.length) : wtF ss = (ByteArray.empty, 3) := by rw [wtF, if_pos h, if_pos h2]
theorem wtF_0 {ss : List ByteArray} (h : allW ss = true) (h2 : ss.length = 0) : wtF ss = (dash, 0) := by rw [wtF, if_pos h, if_neg (by omega), if_pos h2]
theorem wtF_y {ss : List ByteArray} (h : allW ss = true) (h2 : ¬ 60 < ss.length) (h3 : ss.length ≠ 0) : wtF ss = (joinB ss comma ss.length, 0) := by rw [wtF, if_pos h, if_neg h2, if_neg h3]
theorem allW_size {ss : List ByteArray} (h : allW ss = true) (k : Nat) : (sAt ss k).size ≤ 20 := by
  rcases Nat.lt_or_ge k ss.length with hk | hk
  · have := wordB_size (allW_get h hk)
    omega
  · simp [sAt, List.getD_eq_getElem?_getD, List.getElem?_eq_none hk]

set_option maxHeartbeats 1000000 in
theorem spec_WordsText (A : Option Addr) (c : Nat) (ss : List ByteArray) (w : World) (hm : ss.length ≤ maxLen) (hs : ∀ k, (sAt ss k).size ≤ maxLen) (hr : Rd w w.heap.size A (sv ss)) :
    Calls Try.prog 88 #[.slice A ss.length c] w fun e w' => e = .returned (.tuple #[.string (wtF ss).1, .int .i64 (wtF ss).2]) ∧ w = w' := by
  have HR := Lib.hid hr
  have HS := Lib.hid hs
  have HM := Lib.hid hm
  unfold maxLen at hm
  clear hr hs
  rcases h1 : allW ss with _ | _
  · rw [wtF_n h1]
    have H1 := Lib.hid h1
    clear h1
    go_enter Try.func88, Try.ntmps88
    go_wp2_with fail
    refine (spec_All _ _ _ _ HM.out HS.out HR.out).mono ?_
    rintro e w1 ⟨rfl, rfl⟩
    rw [H1.out]
    go_wp2_with fail
    go_ret2
    exact ⟨rfl, rfl⟩
  by_cases h2 : 60 < ss.length
  · rw [wtF_l h1 h2]
    have H1 := Lib.hid h1
    clear h1
    go_enter Try.func88, Try.ntmps88
    go_wp2_with fail
    refine (spec_All _ _ _ _ HM.out HS.out HR.out).mono ?_
    rintro e w1 ⟨rfl, rfl⟩
    rw [H1.out]
    go_wp2_with fail
    go_ret2
    exact ⟨rfl, rfl⟩
  by_cases h3 : ss.length = 0
  · rw [wtF_0 h1 h3]
    have H1 := Lib.hid h1
    have h3' : decide (ss.length = 0) = true := by simp [h3]
    have h3'' : ss.length < 1 := by omega
    clear h1 h3
    go_enter Try.func88, Try.ntmps88
    go_wp2_with fail
    refine (spec_All _ _ _ _ HM.out HS.out HR.out).mono ?_
    rintro e w1 ⟨rfl, rfl⟩
    rw [H1.out]
    go_wp2_with fail
    go_ret2
    exact ⟨rfl, rfl⟩
  · rw [wtF_y h1 h2 h3]
    have H1 := Lib.hid h1
    have h3' : 1 ≤ ss.length := by omega
    clear h1
    go_enter Try.func88, Try.ntmps88
    go_wp2_with fail
    refine (spec_All _ _ _ _ HM.out HS.out HR.out).mono ?_
    rintro e w1 ⟨rfl, rfl⟩
    rw [H1.out]
    go_wp2_with fail
    refine (spec_Words _ _ _ _ _ (by decide) (by omega) (allW_size H1.out) HR.out).mono ?_
    rintro e w2 ⟨rfl, rfl⟩
    go_wp2_with fail
    go_ret2
    exact ⟨rfl, rfl⟩
set_option maxHeartbeats 1000000 in
theorem impl_WordsText (A : Option Addr) (c : Nat) (ss : List ByteArray) (w : World) (hm : ss.length ≤ maxLen) (hs : ∀ k, (sAt ss k).size ≤ maxLen) (hr : Rd w w.heap.size A (sv ss)) :
    Calls Try.prog 87 #[.slice A ss.length c] w fun e w' => e = .returned (.tuple #[.string (wtF ss).1, .int .i64 (wtF ss).2]) ∧ w = w' := by
  have HR := Lib.hid hr
  have HS := Lib.hid hs
  unfold maxLen at hm
  clear hr hs
  have HN := Lib.hid (fun (h : allW ss = false) => wtF_n h)
  have HL := Lib.hid (fun (h : allW ss = true) => wtF_l h)
  have H0 := Lib.hid (fun (h : allW ss = true) => wtF_0 h)
  have HY := Lib.hid (fun (h : allW ss = true) => wtF_y h)
  generalize wtF ss = out at *
  go_enter Try.func87, Try.ntmps87
  go_wp2_with fail
  go_loop [8, 5] (fun s8 _ => ∃ k : Nat, k ≤ ss.length ∧ s8 = .int .i64 k ∧ ∀ j, j < k → wordB (sAt ss j) = true) (fun s8 _ => ss.length - (intOf s8).toNat)
  case atStart => exact ⟨0, Nat.zero_le _, rfl, fun j h => absurd h (by omega)⟩
  case round =>
    obtain ⟨k, hk, rfl, hok⟩ := hrel
    have HO := Lib.hid hok
    clear hok
    by_cases hlt : k < ss.length
    · obtain ⟨ad, rfl, ha⟩ := HR.out.str hlt
      have HZ := Lib.hid (HS.out k)
      generalize hx : sAt ss k = x at *
      have HX := Lib.hid hx
      clear hx
      rcases h1 : wordB x with _ | _
      · have H1 := Lib.hid h1
        have HE := Lib.hid (HN.out (allW_f hlt (by rw [HX.out]; exact h1)))
        clear h1
        go_wp2_with fail
        go_wp2_with fail
        refine (impl_IsWord _ _ HZ.out).mono ?_
        rintro e w1 ⟨rfl, rfl⟩
        rw [H1.out]
        go_wp2_with fail
        go_ret2
        exact ⟨by rw [HE.out]; rfl, rfl⟩
      · have H1 := Lib.hid h1
        clear h1
        go_wp2_with fail
        go_wp2_with fail
        refine (impl_IsWord _ _ HZ.out).mono ?_
        rintro e w1 ⟨rfl, rfl⟩
        rw [H1.out]
        go_wp2_with fail
        go_round
        case rel =>
          refine ⟨k + 1, by omega, by go_num, fun j hj => ?_⟩
          by_cases e : j = k
          · rw [e, HX.out]; exact H1.out
          · exact HO.out j (by omega)
        case measure => simp [intOf]; omega
    · obtain rfl : k = ss.length := by omega
      have HA := Lib.hid (allW_t HO.out)
      by_cases h2 : 60 < ss.length
      · have HE := Lib.hid (HL.out HA.out h2)
        go_wp2_with fail
        go_ret2
        exact ⟨by rw [HE.out]; rfl, rfl⟩
      by_cases h3 : ss.length = 0
      · have HE := Lib.hid (H0.out HA.out h3)
        have h3'' : ss.length < 1 := by omega
        clear h3
        go_wp2_with fail
        go_ret2
        exact ⟨by rw [HE.out]; rfl, rfl⟩
      · have HE := Lib.hid (HY.out HA.out h2 h3)
        have h3' : 1 ≤ ss.length := by omega
        go_wp2_with fail
        refine (impl_join _ _ _ _ _ (by decide) (by omega) (allW_size HA.out) HR.out).mono ?_
        rintro e w2 ⟨rfl, rfl⟩
        go_wp2_with fail
        go_ret2
        exact ⟨by rw [HE.out]; rfl, rfl⟩

end Go.Proofs.Ytpejbmfapdocaaa
