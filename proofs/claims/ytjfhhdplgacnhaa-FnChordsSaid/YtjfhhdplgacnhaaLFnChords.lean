/- The law FnChords, walked: it returns true and leaves old memory alone. Condition: the code reads as bytes. -/
import Derived.Test.YtjfhhdplgacnhaaDrB
import Derived.Test.YtjfhhdplgacnhaaDrL
import Derived.Test.YtjfhhdplgacnhaaTurnL
namespace Go.Proofs.Ytjfhhdplgacnhaa
open Go.RowKit

theorem distF_y {a b n : Int} (h : okAng a b n = true) : distF a b n = (rootN (sqI a b n), 0) := by rw [distF, h]; rfl
theorem distF_n {a b n : Int} (h : okAng a b n = false) : distF a b n = (0, 2) := by rw [distF, h]; rfl
theorem sqF_y {a b n : Int} (h : okAng a b n = true) : sqF a b n = (sqI a b n, 0) := by rw [sqF, h]; rfl
theorem sqF_n {a b n : Int} (h : okAng a b n = false) : sqF a b n = (0, 2) := by rw [sqF, h]; rfl
theorem okAng_mk {a b n : Int} (h1 : 0 ≤ a ∧ a ≤ 10000) (h2 : 0 ≤ b ∧ b ≤ 10000) (h3 : -100000 ≤ n ∧ n ≤ 100000) : okAng a b n = true := by
  rw [okAng, inB_mk h1, inB_mk h2, inB_mk h3]; rfl
/-- The ways of the least steps. -/
theorem steps_ways (x y z : Int) : (∃ k d, (k = 0 ∧ d = 0 ∨ 1 ≤ k ∧ distF x y (k - 1) = (d, 0) ∧ d < z) ∧ stepsF x y z = (k, 0) ∧ 0 ≤ k ∧ k ≤ 360 ∧ ∃ f, distF x y k = (f, 0) ∧ z ≤ f) ∨ (∃ k c, stepsF x y z = (k, c) ∧ c ≠ 0) := by
  rcases e1 : okAng x y 0 && inB z 0 20000 with _ | _
  · exact .inr ⟨0, 2, by rw [stepsF, e1]; rfl, by omega⟩
  · have es : stepsF x y z = firstUp (farB x y z) 361 0 := by rw [stepsF, e1]; rfl
    rw [Bool.and_eq_true] at e1
    obtain ⟨h1, h2, _⟩ := okAng_t e1.1
    rcases e2 : firstUp (farB x y z) 361 0 with ⟨k, c⟩
    rcases firstUp_code (f := farB x y z) 361 0 with hc | hc
    · rw [e2] at hc
      simp only at hc
      subst hc
      obtain ⟨g1, g2, g3, g4⟩ := firstUp_get e2
      refine .inl ⟨k, if k = 0 then 0 else rootN (sqI x y (k - 1)), ?_, by rw [es, e2], g2, by omega, _, distF_y (okAng_mk h1 h2 (by omega)), of_decide_eq_true g1⟩
      by_cases hk : k = 0
      · exact .inl ⟨hk, by rw [if_pos hk]⟩
      · refine .inr ⟨by omega, by rw [distF_y (okAng_mk h1 h2 (by omega)), if_neg hk], ?_⟩
        rw [if_neg hk]
        have := of_decide_eq_false (g4 (k - 1) (by omega) (by omega))
        omega
    · rw [e2] at hc
      simp only at hc
      exact .inr ⟨k, c, by rw [es, e2], by omega⟩
/-- The ways of a distance. -/
theorem dist_ways (a b n : Int) : (∃ d s, distF a b n = (d, 0) ∧ sqF a b n = (s, 0) ∧ distF b a (-n) = (d, 0) ∧ (0 ≤ a ∧ a ≤ 10000) ∧ (0 ≤ b ∧ b ≤ 10000) ∧ (-100000 ≤ n ∧ n ≤ 100000) ∧ a - b - 1 ≤ d ∧ b - a - 1 ≤ d ∧ d ≤ a + b + 1) ∨ (distF a b n = (0, 2) ∧ sqF a b n = (0, 2)) := by
  rcases e : okAng a b n with _ | _
  · exact .inr ⟨distF_n e, sqF_n e⟩
  · obtain ⟨h1, h2, h3⟩ := okAng_t e
    obtain ⟨k1, k2⟩ := sqI_between (n := n) h1 h2
    refine .inl ⟨_, _, distF_y e, sqF_y e, by rw [distF_y (okAng_mk h2 h1 (by omega)), sqI_swap], h1, h2, h3, ?_⟩
    by_cases h : b ≤ a
    · have := rootN_between (a := a - b) (b := a + b) (by omega) (by omega) k1 k2
      omega
    · have e2 : (a - b) * (a - b) = (b - a) * (b - a) := by rw [← neg_sq (a - b), show -(a - b) = b - a by omega]
      rw [e2] at k1
      have := rootN_between (a := b - a) (b := a + b) (by omega) (by omega) k1 k2
      omega
set_option maxRecDepth 100000 in
set_option maxHeartbeats 4000000 in
theorem law_FnChords (A : Option Addr) (cap : Nat) (us : List Int) (v : World) (hr : Rd v v.heap.size A (bv us)) (hm : us.length ≤ maxLen) (hby : ∀ k, 0 ≤ us.getD k 0 ∧ us.getD k 0 ≤ 255) :
    Calls Try.prog 5 #[.slice A us.length cap] v fun e w' => e = .returned (.bool true) ∧ Below v.heap.size v w' := by
  unfold maxLen at hm
  by_cases hl : 4096 < us.length
  · have hl2 := Lib.hid (show decide (4096 < (us.length : Int)) = true from decide_eq_true (by omega))
    go_enter Try.func5, Try.ntmps5
    go_wp2_with fail
    (with_reducible refine (big_any A us.length cap true _ hl2.out (by unfold maxLen; omega)).mono ?_)
    rintro e w ⟨rfl, rfl⟩
    go_wp2_with fail
    go_ret
    exact ⟨rfl, Below.refl _ _⟩
  have hl2 := Lib.hid (show decide (4096 < (us.length : Int)) = false from decide_eq_false (by omega))
  have HU := Lib.hid (show Code us from ⟨by omega, hby⟩)
  have HR := Lib.hid hr
  have HL := Lib.hid (show us.length ≤ maxLen by unfold maxLen; omega)
  clear hr hm hby hl
  have bb := Below.refl v.heap.size v
  have zb := bb.size
  go_enter Try.func5, Try.ntmps5
  go_wp2_with fail
  (with_reducible refine (big_any A us.length cap false _ hl2.out HL.out).mono ?_)
  rintro e w ⟨rfl, rfl⟩
  go_wp2_with fail
  (with_reducible refine (spec_DrawDistanceBetween _ _ us _ HU.out HR.out).mono ?_)
  rintro e w1 ⟨a, b, n, rfl, hb1⟩
  replace bb := hb1
  replace zb := hb1.size
  clear hb1
  have D1 := Lib.hid (fun w => impl_DistanceBetween a b n w)
  have D2 := Lib.hid (fun w => spec_DistanceBetween a b n w)
  have Q1 := Lib.hid (fun w => impl_SquareBetween a b n w)
  have Q2 := Lib.hid (fun w => spec_SquareBetween a b n w)
  go_wp2_with fail
  (with_reducible refine (D1.out _).mono ?_)
  rintro e wq ⟨rfl, rfl⟩
  go_wp2_with fail
  (with_reducible refine (D2.out _).mono ?_)
  rintro e w2 ⟨rfl, hb1⟩
  replace bb : Below v.heap.size v w2 := Below.trans (by (repeat (first | with_reducible exact Below.refl _ _ | with_reducible assumption | ((with_reducible refine Bw.set ?_ ?_); rotate_left; focus omega) | ((with_reducible refine Bw.al ?_ ?_); rotate_left; focus (first | omega | (simp; done) | (simp; omega))) | with_reducible refine Below.drew ?_ | with_reducible refine Bw.dr ?_ _))) (hb1.mono (by first | omega | (simp; omega)))
  have zb := bb.size
  clear hb1
  go_wp2_with fail
  (with_reducible refine (Q1.out _).mono ?_)
  rintro e wq ⟨rfl, rfl⟩
  go_wp2_with fail
  (with_reducible refine (Q2.out _).mono ?_)
  rintro e w3 ⟨rfl, hb1⟩
  replace bb : Below v.heap.size v w3 := Below.trans (by (repeat (first | with_reducible exact Below.refl _ _ | with_reducible assumption | ((with_reducible refine Bw.set ?_ ?_); rotate_left; focus omega) | ((with_reducible refine Bw.al ?_ ?_); rotate_left; focus (first | omega | (simp; done) | (simp; omega))) | with_reducible refine Below.drew ?_ | with_reducible refine Bw.dr ?_ _))) (hb1.mono (by first | omega | (simp; omega)))
  have zb := bb.size
  clear hb1
  go_wp2_with fail
  (with_reducible refine (spec_DrawStepsFor _ _ us _ HU.out ((HR.out.keep bb).more zb)).mono ?_)
  rintro e w4 ⟨x, y, z, rfl, hb1⟩
  replace bb : Below v.heap.size v w4 := bb.trans (hb1.mono zb)
  have zb := bb.size
  clear hb1
  go_wp2_with fail
  (with_reducible refine (impl_StepsFor x y z _).mono ?_)
  rintro e wq ⟨rfl, rfl⟩
  go_wp2_with fail
  (with_reducible refine (spec_StepsFor x y z _).mono ?_)
  rintro e w5 ⟨rfl, hb1⟩
  replace bb : Below v.heap.size v w5 := Below.trans (by (repeat (first | with_reducible exact Below.refl _ _ | with_reducible assumption | ((with_reducible refine Bw.set ?_ ?_); rotate_left; focus omega) | ((with_reducible refine Bw.al ?_ ?_); rotate_left; focus (first | omega | (simp; done) | (simp; omega))) | with_reducible refine Below.drew ?_ | with_reducible refine Bw.dr ?_ _))) (hb1.mono (by first | omega | (simp; omega)))
  have zb := bb.size
  clear hb1
  rcases dist_ways a b n with ⟨d, s, e1, e2, e3, ⟨a0, a1⟩, ⟨b0, b1⟩, ⟨n0, n1⟩, d1, d2, d3⟩ | ⟨e1, e2⟩
  all_goals rcases steps_ways x y z with ⟨k, dd, hk, e4, k0, k1, f, e5, f1⟩ | ⟨k, c, e4, hc⟩
  · have B1 := Lib.hid (fun w => impl_DistanceBetween b a (-n) w)
    have F1 := Lib.hid (fun w => impl_DistanceBetween x y k w)
    have F2 := Lib.hid (fun w => impl_DistanceBetween x y (k - 1) w)
    rw [e3] at B1
    rw [e5] at F1
    rw [e1, e2, e4]
    clear e1 e2 e4 e3 e5
    rcases hk with ⟨rfl, rfl⟩ | ⟨h1, h2, h3⟩
    · by_cases q : b ≤ a
      all_goals
        go_wp2_with fail
        (with_reducible refine (F1.out _).mono ?_)
        rintro e wq ⟨rfl, rfl⟩
        go_wp2_with fail
        (with_reducible refine (B1.out _).mono ?_)
        rintro e wq ⟨rfl, rfl⟩
        go_wp2_with fail
        go_ret
        exact ⟨rfl, bb⟩
    · rw [h2] at F2
      clear h2
      by_cases q : b ≤ a
      all_goals
        go_wp2_with fail
        (with_reducible refine (F1.out _).mono ?_)
        rintro e wq ⟨rfl, rfl⟩
        go_wp2_with fail
        (with_reducible refine (F2.out _).mono ?_)
        rintro e wq ⟨rfl, rfl⟩
        go_wp2_with fail
        (with_reducible refine (B1.out _).mono ?_)
        rintro e wq ⟨rfl, rfl⟩
        go_wp2_with fail
        go_ret
        exact ⟨rfl, bb⟩
  · have B1 := Lib.hid (fun w => impl_DistanceBetween b a (-n) w)
    rw [e3] at B1
    rw [e1, e2, e4]
    clear e1 e2 e4 e3
    by_cases q : b ≤ a
    all_goals
      go_wp2_with fail
      (with_reducible refine (B1.out _).mono ?_)
      rintro e wq ⟨rfl, rfl⟩
      go_wp2_with fail
      go_ret
      exact ⟨rfl, bb⟩
  · have F1 := Lib.hid (fun w => impl_DistanceBetween x y k w)
    have F2 := Lib.hid (fun w => impl_DistanceBetween x y (k - 1) w)
    rw [e5] at F1
    rw [e1, e2, e4]
    clear e1 e2 e4 e5
    rcases hk with ⟨rfl, rfl⟩ | ⟨h1, h2, h3⟩
    · go_wp2_with fail
      (with_reducible refine (F1.out _).mono ?_)
      rintro e wq ⟨rfl, rfl⟩
      go_wp2_with fail
      go_ret
      exact ⟨rfl, bb⟩
    · rw [h2] at F2
      clear h2
      go_wp2_with fail
      (with_reducible refine (F1.out _).mono ?_)
      rintro e wq ⟨rfl, rfl⟩
      go_wp2_with fail
      (with_reducible refine (F2.out _).mono ?_)
      rintro e wq ⟨rfl, rfl⟩
      go_wp2_with fail
      go_ret
      exact ⟨rfl, bb⟩
  · rw [e1, e2, e4]
    clear e1 e2 e4
    go_wp2_with fail
    go_ret
    exact ⟨rfl, bb⟩

end Go.Proofs.Ytjfhhdplgacnhaa
