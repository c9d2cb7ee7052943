/- The law FnCosines, walked: it returns true and leaves old memory alone. Condition: the code reads as bytes. -/
import Derived.Test.YtjfhhdplgacnhaaDrB
import Derived.Test.YtjfhhdplgacnhaaDrL
import Derived.Test.YtjfhhdplgacnhaaAngL
namespace Go.Proofs.Ytjfhhdplgacnhaa
open Go.RowKit

theorem cosF_y {n : Int} (h : -100000 ≤ n ∧ n ≤ 100000) : cosF n = (cosI n, 0) := by rw [cosF, inB_mk h]; rfl
theorem cosF_n {n : Int} (h : ¬ (-100000 ≤ n ∧ n ≤ 100000)) : cosF n = (0, 2) := by rw [cosF, inB_no h]; rfl
set_option maxRecDepth 100000 in
set_option maxHeartbeats 4000000 in
theorem law_FnCosines (A : Option Addr) (cap : Nat) (us : List Int) (v : World) (hr : Rd v v.heap.size A (bv us)) (hm : us.length ≤ maxLen) (hby : ∀ k, 0 ≤ us.getD k 0 ∧ us.getD k 0 ≤ 255) :
    Calls Try.prog 3 #[.slice A us.length cap] v fun e w' => e = .returned (.bool true) ∧ Below v.heap.size v w' := by
  unfold maxLen at hm
  by_cases hl : 4096 < us.length
  · have hl2 := Lib.hid (show decide (4096 < (us.length : Int)) = true from decide_eq_true (by omega))
    go_enter Try.func3, Try.ntmps3
    go_wp2_with fail
    (with_reducible refine (big_any A us.length cap true _ hl2.out (by unfold maxLen; omega)).mono ?_)
    rintro e w ⟨rfl, rfl⟩
    go_wp2_with fail
    go_ret
    exact ⟨rfl, Below.refl _ _⟩
  have hl2 := Lib.hid (show decide (4096 < (us.length : Int)) = false from decide_eq_false (by omega))
  have HU := Lib.hid (show Code us from ⟨by omega, hby⟩)
  have HR := Lib.hid hr
  have HL := Lib.hid (show us.length ≤ maxLen by unfold maxLen; omega)
  clear hr hm hby hl
  have bb := Below.refl v.heap.size v
  have zb := bb.size
  go_enter Try.func3, Try.ntmps3
  go_wp2_with fail
  (with_reducible refine (big_any A us.length cap false _ hl2.out HL.out).mono ?_)
  rintro e w ⟨rfl, rfl⟩
  go_wp2_with fail
  (with_reducible refine (spec_DrawCosineOf _ _ us _ HU.out HR.out).mono ?_)
  rintro e w1 ⟨n, rfl, hb1⟩
  replace bb := hb1
  replace zb := hb1.size
  clear hb1
  go_wp2_with fail
  (with_reducible refine (impl_CosineOf n _).mono ?_)
  rintro e wq ⟨rfl, rfl⟩
  go_wp2_with fail
  (with_reducible refine (spec_CosineOf n _).mono ?_)
  rintro e w2 ⟨rfl, hb1⟩
  replace bb : Below v.heap.size v w2 := Below.trans (by (repeat (first | with_reducible exact Below.refl _ _ | with_reducible assumption | ((with_reducible refine Bw.set ?_ ?_); rotate_left; focus omega) | ((with_reducible refine Bw.al ?_ ?_); rotate_left; focus (first | omega | (simp; done) | (simp; omega))) | with_reducible refine Below.drew ?_ | with_reducible refine Bw.dr ?_ _))) (hb1.mono (by first | omega | (simp; omega)))
  have zb := bb.size
  clear hb1
  go_wp2_with fail
  (with_reducible refine (spec_DrawSineOf _ _ us _ HU.out ((HR.out.keep bb).more zb)).mono ?_)
  rintro e w3 ⟨m, rfl, hb1⟩
  replace bb : Below v.heap.size v w3 := bb.trans (hb1.mono zb)
  have zb := bb.size
  clear hb1
  go_wp2_with fail
  (with_reducible refine (impl_SineOf m _).mono ?_)
  rintro e wq ⟨rfl, rfl⟩
  go_wp2_with fail
  (with_reducible refine (spec_SineOf m _).mono ?_)
  rintro e w4 ⟨rfl, hb1⟩
  replace bb : Below v.heap.size v w4 := Below.trans (by (repeat (first | with_reducible exact Below.refl _ _ | with_reducible assumption | ((with_reducible refine Bw.set ?_ ?_); rotate_left; focus omega) | ((with_reducible refine Bw.al ?_ ?_); rotate_left; focus (first | omega | (simp; done) | (simp; omega))) | with_reducible refine Below.drew ?_ | with_reducible refine Bw.dr ?_ _))) (hb1.mono (by first | omega | (simp; omega)))
  have zb := bb.size
  clear hb1
  by_cases h : -100000 ≤ n ∧ n ≤ 100000
  · rw [cosF_y h]
    by_cases h2 : 100000 < n + 720
    · go_wp2_with fail
      go_ret
      exact ⟨rfl, bb⟩
    · have hcb := cosI_bd n
      have H1 := Lib.hid (show ∀ w, Calls Try.prog 8 #[.int .i64 (n + 720)] w fun e w' => e = .returned (.tuple #[.int .i64 (cosI n), .int .i64 0]) ∧ w = w' from fun w => by
        have := impl_CosineOf (n + 720) w
        rw [cosF_y (by omega), cosI_turn] at this
        exact this)
      have H2 := Lib.hid (show ∀ w, Calls Try.prog 8 #[.int .i64 (n + 360)] w fun e w' => e = .returned (.tuple #[.int .i64 (-cosI n), .int .i64 0]) ∧ w = w' from fun w => by
        have := impl_CosineOf (n + 360) w
        rw [cosF_y (by omega), cosI_half] at this
        exact this)
      have H3 := Lib.hid (show ∀ w, Calls Try.prog 8 #[.int .i64 (-n)] w fun e w' => e = .returned (.tuple #[.int .i64 (cosI n), .int .i64 0]) ∧ w = w' from fun w => by
        have := impl_CosineOf (-n) w
        rw [cosF_y (by omega), cosI_neg] at this
        exact this)
      simp only
      generalize cosI n = c at *
      obtain ⟨h, h'⟩ := h
      go_wp2_with fail
      (with_reducible refine (H1.out _).mono ?_)
      rintro e wq ⟨rfl, rfl⟩
      go_wp2_with fail
      (with_reducible refine (H2.out _).mono ?_)
      rintro e wq ⟨rfl, rfl⟩
      go_wp2_with fail
      (with_reducible refine (H3.out _).mono ?_)
      rintro e wq ⟨rfl, rfl⟩
      go_wp2_with fail
      go_ret
      exact ⟨rfl, bb⟩
  · rw [cosF_n h]
    clear h
    go_wp2_with fail
    go_ret
    exact ⟨rfl, bb⟩

end Go.Proofs.Ytjfhhdplgacnhaa
