/- The law FnExactReadWords, walked: it returns true and leaves old memory alone. Condition: the text is no longer than a slice can be. -/
import Derived.Test.YthibbbjjmjaafaaRl
import Derived.Test.YthibbbjjmjaafaaMt
namespace Go.Proofs.Ythibbbjjmjaafaa
open Go.RowKit

theorem rwF_len (s : ByteArray) : (rwF s).1.length ≤ 60 := by
  unfold rwF
  split
  · simp
  · split
    · rename_i h
      simp only [Bool.and_eq_true, decide_eq_true_eq] at h
      exact h.2
    · simp
set_option maxHeartbeats 4000000 in
theorem law_ReadWords (s : ByteArray) (w : World) (hs : s.size ≤ maxLen) :
    Calls Try.prog 5 #[.string s] w fun e w' => e = .returned (.bool true) ∧ Below w.heap.size w w' := by
  unfold maxLen at hs
  by_cases hl : 1048576 < s.size
  · go_enter Try.func5, Try.ntmps5
    go_wp2_with fail
    go_ret
    exact ⟨rfl, Below.refl _ _⟩
  have hn := rwF_len s
  have HI := Lib.hid (fun (w : World) => impl_ReadWords s w (by omega))
  have HS := Lib.hid (fun (w : World) => spec_ReadWords s w (by omega))
  generalize rwF s = out at *
  obtain ⟨ss, code⟩ := out
  simp only at hn
  go_enter Try.func5, Try.ntmps5
  go_wp2_with fail
  (with_reducible refine (HS.out _).mono ?_)
  rintro e w1 ⟨v0, rfl, hown0, hb1⟩
  obtain ⟨A0, c0, rfl, hr0⟩ := own_read hown0
  have R0 := Lib.hid hr0
  have B1 := Lib.hid hb1
  clear hown0 hr0 hb1
  go_wp2_with fail
  (with_reducible refine (HI.out _).mono ?_)
  rintro e w2 ⟨v1, rfl, hown1, hb2⟩
  obtain ⟨A1, c1, rfl, hw1, _, hbase⟩ := own_write hown1
  have W2 := Lib.hid hw1
  have HBASE := Lib.hid hbase
  have B2 := Lib.hid hb2
  clear hown1 hw1 hb2 hbase
  go_wp2_with fail
  (with_reducible refine (eqStringS_same _ _ _ _ ss _ (by omega) W2.out.rd (R0.out.now B2.out)).mono ?_)
  rintro e w3 ⟨rfl, hb3⟩
  have W3 := Lib.hid (W2.out.below hb3)
  have B3 := Lib.hid (B2.out.trans (hb3.mono B2.out.size))
  clear hb3
  have hm := markStringS_any A1 c1 (sv ss) 1 w3 (by rw [sv_len]; omega) (by omega) W3.out
  rw [sv_len] at hm
  have HM := Lib.hid hm
  clear hm
  go_wp2_with fail
  (with_reducible refine HM.out.mono ?_)
  rintro e w4 ⟨rfl, hw4, hg4⟩
  have B4 := Lib.hid (B3.out.grown hg4 B3.out.size HBASE.out)
  have W4 := Lib.hid hw4
  clear hw4 hg4
  go_wp2_with fail
  (with_reducible refine (heldStringS_any A1 c1 ss.length 1 _ (by omega) (by omega) W4.out.rd).mono ?_)
  rintro e w5 ⟨rfl, hb5⟩
  have W5 := Lib.hid (W4.out.below hb5)
  have B5 := Lib.hid (B4.out.trans (hb5.mono B4.out.size))
  clear hb5
  go_wp2_with fail
  (with_reducible refine (HI.out _).mono ?_)
  rintro e w6 ⟨v2, rfl, hown2, hb6⟩
  obtain ⟨A2, c2, rfl, hr2⟩ := own_read hown2
  have R2 := Lib.hid hr2
  have W6 := Lib.hid (W5.out.below hb6)
  have B6 := Lib.hid (B5.out.trans (hb6.mono B5.out.size))
  clear hown2 hr2 hb6
  go_wp2_with fail
  (with_reducible refine (eqStringS_same _ _ _ _ ss _ (by omega) R2.out (R0.out.now B6.out)).mono ?_)
  rintro e w7 ⟨rfl, hb7⟩
  have W7 := Lib.hid (W6.out.below hb7)
  have B7 := Lib.hid (B6.out.trans (hb7.mono B6.out.size))
  clear hb7
  go_wp2_with fail
  (with_reducible refine (heldStringS_any A1 c1 ss.length 1 _ (by omega) (by omega) W7.out.rd).mono ?_)
  rintro e w8 ⟨rfl, hb8⟩
  have B8 := Lib.hid (B1.out.trans ((B7.out.trans (hb8.mono B7.out.size)).mono B1.out.size))
  clear hb8
  go_wp2_with fail
  go_ret
  exact ⟨rfl, B8.out⟩

end Go.Proofs.Ythibbbjjmjaafaa
