/- ReadWords and ReadList of the program and the reference. Condition: the text has at most 1048576 bytes. -/
import Derived.Test.YtpejbmfapdocaaaSplit
import Derived.Test.YtpejbmfapdocaaaRd
import Derived.Test.YtpejbmfapdocaaaLt
namespace Go.Proofs.Ytpejbmfapdocaaa
open Go.RowKit

/-- A slice of texts of the call's own, and a code. -/
def OwnStrs2 (w : World) (ss : List ByteArray) (c : Int) (e : Ending) (w' : World) : Prop :=
  ∃ v, e = .returned (.tuple #[v, .int .i64 c]) ∧ w'.ownsRow w.heap.size 9 1 v ss.length (sv ss) ∧ Below w.heap.size w w'
def OwnInts2 (w : World) (xs : List Int) (c : Int) (e : Ending) (w' : World) : Prop :=
  ∃ v, e = .returned (.tuple #[v, .int .i64 c]) ∧ w'.ownsRow w.heap.size 2 1 v xs.length (iv xs) ∧ Below w.heap.size w w'
def rwF (s : ByteArray) : List ByteArray × Int := if s = dash then ([], 0) else if allW (splitB s 44) && decide ((splitB s 44).length ≤ 60) then (splitB s 44, 0) else ([], 6)
theorem rwF_d {s : ByteArray} (h : s = dash) : rwF s = ([], 0) := by rw [rwF, if_pos h]
theorem rwF_n {s : ByteArray} (h : s ≠ dash) (h2 : allW (splitB s 44) = false ∨ 60 < (splitB s 44).length) : rwF s = ([], 6) := by
  rw [rwF, if_neg h, if_neg]
  rcases h2 with h2 | h2
  · simp [h2]
  · simp; intro _; omega
theorem rwF_y {s : ByteArray} (h : s ≠ dash) (h2 : allW (splitB s 44) = true) (h3 : ¬ 60 < (splitB s 44).length) : rwF s = (splitB s 44, 0) := by
  rw [rwF, if_neg h, if_pos]
  simp [h2]; omega
theorem eq_dash {s : ByteArray} {b : Bool} (h : decide (s = dash) = b) : (s.toList == [45]) = b := by
  rw [← h, ← eqBytes]
  have e : dash.toList = [45] := by rw [ByteArray.toList_eq]; rfl
  rw [e]
theorem eq_dash2 {s : ByteArray} {b : Bool} (h : decide (s = dash) = b) : (s.toList == ({ data := #[45] } : ByteArray).toList) = b := by
  rw [← h, ← eqBytes]
  rfl
set_option maxHeartbeats 2000000 in
theorem impl_ReadWords (s : ByteArray) (w : World) (hs : s.size ≤ 1048576) : Calls Try.prog 90 #[.string s] w (OwnStrs2 w (rwF s).1 (rwF s).2) := by
  rcases hd : decide (s = dash) with _ | _
  rotate_left
  · have e1 := eq_dash hd
    have e2 := eq_dash2 hd
    have HO := Lib.hid (rwF_d (of_decide_eq_true hd))
    clear hd
    go_enter Try.func90, Try.ntmps90
    go_wp2_with fail
    go_ret2
    exact ⟨.slice none 0 0, by rw [HO.out]; rfl, by rw [HO.out]; exact ⟨rfl, .inl ⟨rfl, rfl⟩⟩, by (repeat (first | with_reducible exact Below.refl _ _ | with_reducible assumption | ((with_reducible refine Bw.set ?_ ?_); rotate_left; focus omega) | ((with_reducible refine Bw.al ?_ ?_); rotate_left; focus (first | omega | (simp; done) | (simp; omega))) | with_reducible refine Below.drew ?_ | with_reducible refine Bw.dr ?_ _))⟩
  have e1 := eq_dash hd
  have e2 := eq_dash2 hd
  have HN := Lib.hid (fun h => rwF_n (of_decide_eq_false hd) h)
  have HY := Lib.hid (fun h => rwF_y (of_decide_eq_false hd) h)
  have HZ := Lib.hid (splitB_small s 44)
  have hl := (splitB_len s 44).2
  generalize rwF s = out at *
  clear hd
  go_enter Try.func90, Try.ntmps90
  go_wp2_with fail
  (with_reducible refine (impl_splitAt s 44 _ hs (by omega)).mono ?_)
  rintro e w1 ⟨v1, rfl, hown, hb1⟩
  obtain ⟨A1, c1, rfl, hr1⟩ := own_read hown
  have HW := Lib.hid hown
  have HR := Lib.hid hr1
  clear hown hr1
  generalize splitB s 44 = ps at *
  by_cases h60 : 60 < ps.length
  · have HE := Lib.hid (HN.out (.inr h60))
    go_wp2_with fail
    go_ret2
    exact ⟨.slice none 0 0, by rw [HE.out]; rfl, by rw [HE.out]; exact ⟨rfl, .inl ⟨rfl, rfl⟩⟩, hb1⟩
  go_wp2_with fail
  go_loop [16, 6] (fun s16 _ => ∃ k : Nat, k ≤ ps.length ∧ s16 = .int .i64 k ∧ ∀ j, j < k → wordB (sAt ps j) = true) (fun s16 _ => ps.length - (intOf s16).toNat)
  case atStart => exact ⟨0, Nat.zero_le _, rfl, fun j h => absurd h (by omega)⟩
  case round =>
    obtain ⟨k, hk, rfl, hok⟩ := hrel
    have HO := Lib.hid hok
    clear hok
    by_cases hlt : k < ps.length
    · obtain ⟨ad, rfl, ha⟩ := HR.out.str hlt
      have hz1 := HZ.out k
      have HZ2 := Lib.hid (show (sAt ps k).size ≤ maxLen by unfold maxLen; omega)
      generalize hx : sAt ps k = x at *
      have HX := Lib.hid hx
      clear hx
      rcases h1 : wordB x with _ | _
      · have H1 := Lib.hid h1
        have HE := Lib.hid (HN.out (.inl (allW_f hlt (by rw [HX.out]; exact h1))))
        clear h1
        go_wp2_with fail
        refine (impl_IsWord _ _ HZ2.out).mono ?_
        rintro e w2 ⟨rfl, rfl⟩
        rw [H1.out]
        go_wp2_with fail
        go_ret2
        exact ⟨.slice none 0 0, by rw [HE.out]; rfl, by rw [HE.out]; exact ⟨rfl, .inl ⟨rfl, rfl⟩⟩, hb1⟩
      · have H1 := Lib.hid h1
        clear h1
        go_wp2_with fail
        refine (impl_IsWord _ _ HZ2.out).mono ?_
        rintro e w2 ⟨rfl, rfl⟩
        rw [H1.out]
        go_wp2_with fail
        go_round
        case rel =>
          refine ⟨k + 1, by omega, by go_num, fun j hj => ?_⟩
          by_cases e : j = k
          · rw [e, HX.out]; exact H1.out
          · exact HO.out j (by omega)
        case measure => simp [intOf]; omega
    · obtain rfl : k = ps.length := by omega
      have HE := Lib.hid (HY.out (allW_t HO.out) h60)
      go_wp2_with fail
      go_ret2
      exact ⟨_, by rw [HE.out]; rfl, by rw [HE.out]; exact HW.out, hb1⟩
set_option maxHeartbeats 2000000 in
theorem spec_ReadWords (s : ByteArray) (w : World) (hs : s.size ≤ 1048576) : Calls Try.prog 91 #[.string s] w (OwnStrs2 w (rwF s).1 (rwF s).2) := by
  rcases hd : decide (s = dash) with _ | _
  rotate_left
  · have e1 := eq_dash hd
    have e2 := eq_dash2 hd
    have HO := Lib.hid (rwF_d (of_decide_eq_true hd))
    clear hd
    go_enter Try.func91, Try.ntmps91
    go_wp2_with fail
    go_ret2
    exact ⟨_, by rw [HO.out]; rfl, by rw [HO.out]; exact ⟨rfl, .inr ⟨w.heap.size, 0, _, rfl, Nat.le_refl _, heap_alloc_new _ _, Nat.zero_le _, by unfold maxLen; omega, rfl, rfl⟩⟩, by (repeat (first | with_reducible exact Below.refl _ _ | with_reducible assumption | ((with_reducible refine Bw.set ?_ ?_); rotate_left; focus omega) | ((with_reducible refine Bw.al ?_ ?_); rotate_left; focus (first | omega | (simp; done) | (simp; omega))) | with_reducible refine Below.drew ?_ | with_reducible refine Bw.dr ?_ _))⟩
  have e1 := eq_dash hd
  have e2 := eq_dash2 hd
  have HN := Lib.hid (fun h => rwF_n (of_decide_eq_false hd) h)
  have HY := Lib.hid (fun h => rwF_y (of_decide_eq_false hd) h)
  have HZ := Lib.hid (splitB_small s 44)
  have hl := (splitB_len s 44).2
  generalize rwF s = out at *
  clear hd
  go_enter Try.func91, Try.ntmps91
  go_wp2_with fail
  (with_reducible refine (spec_Split s 44 _ hs (by omega)).mono ?_)
  rintro e w1 ⟨v1, rfl, hown, hb1⟩
  obtain ⟨A1, c1, rfl, hr1⟩ := own_read hown
  have HW := Lib.hid hown
  have HR := Lib.hid hr1
  clear hown hr1
  generalize splitB s 44 = ps at *
  have HZ2 := Lib.hid (show ∀ k, (sAt ps k).size ≤ maxLen from fun k => by have := HZ.out k; unfold maxLen; omega)
  have HM := Lib.hid (show ps.length ≤ maxLen by unfold maxLen; omega)
  rcases h1 : allW ps with _ | _
  · have HE := Lib.hid (HN.out (.inl h1))
    have H1 := Lib.hid h1
    clear h1
    go_wp2_with fail
    refine (spec_All _ _ _ _ HM.out HZ2.out HR.out).mono ?_
    rintro e w2 ⟨rfl, rfl⟩
    rw [H1.out]
    go_wp2_with fail
    go_ret2
    exact ⟨.slice none 0 0, by rw [HE.out]; rfl, by rw [HE.out]; exact ⟨rfl, .inl ⟨rfl, rfl⟩⟩, hb1⟩
  have H1 := Lib.hid h1
  by_cases h60 : 60 < ps.length
  · have HE := Lib.hid (HN.out (.inr h60))
    have g1 : decide (60 < (ps.length : Int)) = true := decide_eq_true (by omega)
    clear h1
    go_wp2_with fail
    refine (spec_All _ _ _ _ HM.out HZ2.out HR.out).mono ?_
    rintro e w2 ⟨rfl, rfl⟩
    rw [H1.out]
    go_wp2_with fail
    go_ret2
    exact ⟨.slice none 0 0, by rw [HE.out]; rfl, by rw [HE.out]; exact ⟨rfl, .inl ⟨rfl, rfl⟩⟩, hb1⟩
  · have HE := Lib.hid (HY.out h1 h60)
    have g1 : decide (60 < (ps.length : Int)) = false := decide_eq_false (by omega)
    clear h1
    go_wp2_with fail
    refine (spec_All _ _ _ _ HM.out HZ2.out HR.out).mono ?_
    rintro e w2 ⟨rfl, rfl⟩
    rw [H1.out]
    go_wp2_with fail
    go_ret2
    exact ⟨_, by rw [HE.out]; rfl, by rw [HE.out]; exact HW.out, hb1⟩

end Go.Proofs.Ytpejbmfapdocaaa
