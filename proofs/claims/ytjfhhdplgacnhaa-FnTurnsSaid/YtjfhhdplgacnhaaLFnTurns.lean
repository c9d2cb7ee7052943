/- The law FnTurns, walked: it returns true and leaves old memory alone. Condition: the code reads as bytes. -/
import Derived.Test.YtjfhhdplgacnhaaDrB
import Derived.Test.YtjfhhdplgacnhaaDrL
import Derived.Test.YtjfhhdplgacnhaaTurnL
namespace Go.Proofs.Ytjfhhdplgacnhaa
open Go.RowKit

theorem turnsF_y {n : Int} (h : -100000 ≤ n ∧ n ≤ 100000) : turnsF n = (n / 720, n % 720, 0) := by rw [turnsF, inB_mk h]; rfl
theorem turnsF_n {n : Int} (h : ¬ (-100000 ≤ n ∧ n ≤ 100000)) : turnsF n = (0, 0, 2) := by rw [turnsF, inB_no h]; rfl
theorem pointF_y {r n : Int} (h : (0 ≤ r ∧ r ≤ 10000) ∧ (-100000 ≤ n ∧ n ≤ 100000)) : pointF r n = (near (r * cosI n) 1000000000, near (r * cosI (180 - n)) 1000000000, 0) := by rw [pointF, inB_mk h.1, inB_mk h.2]; rfl
theorem pointF_n {r n : Int} (h : ¬ ((0 ≤ r ∧ r ≤ 10000) ∧ (-100000 ≤ n ∧ n ≤ 100000))) : pointF r n = (0, 0, 2) := by
  rw [pointF]
  rcases e1 : inB r 0 10000 with _ | _
  · rfl
  · rcases e2 : inB n (-100000) 100000 with _ | _
    · rfl
    · exact absurd ⟨inB_t e1, inB_t e2⟩ h
/-- What the law asks of a point. -/
theorem point_law (a b : Int) : (∃ x y, pointF a b = (x, y, 0) ∧ 0 ≤ a ∧ a ≤ 10000 ∧ -10001 ≤ x ∧ x ≤ 10001 ∧ -10001 ≤ y ∧ y ≤ 10001 ∧ x * x + y * y ≤ (a + 2) * (a + 2) ∧ max 0 (a - 2) * max 0 (a - 2) ≤ x * x + y * y) ∨ pointF a b = (0, 0, 2) := by
  by_cases h : (0 ≤ a ∧ a ≤ 10000) ∧ (-100000 ≤ b ∧ b ≤ 100000)
  · have k := point_far (n := b) h.1
    have hb : ∀ c, -1000000000 ≤ c ∧ c ≤ 1000000000 → -10001 ≤ near (a * c) 1000000000 ∧ near (a * c) 1000000000 ≤ 10001 := fun c hc => by
      have hm := mul_in (x := a) (A := 10000) ⟨by omega, by omega⟩ hc
      unfold near
      generalize a * c = p at *
      omega
    have b1 := hb _ (cosI_bd b)
    have b2 := hb _ (cosI_bd (180 - b))
    exact .inl ⟨_, _, pointF_y h, h.1.1, h.1.2, b1.1, b1.2, b2.1, b2.2, k.1, k.2⟩
  · exact .inr (pointF_n h)
set_option maxRecDepth 100000 in
set_option maxHeartbeats 4000000 in
theorem law_FnTurns (A : Option Addr) (cap : Nat) (us : List Int) (v : World) (hr : Rd v v.heap.size A (bv us)) (hm : us.length ≤ maxLen) (hby : ∀ k, 0 ≤ us.getD k 0 ∧ us.getD k 0 ≤ 255) :
    Calls Try.prog 4 #[.slice A us.length cap] v fun e w' => e = .returned (.bool true) ∧ Below v.heap.size v w' := by
  unfold maxLen at hm
  by_cases hl : 4096 < us.length
  · have hl2 := Lib.hid (show decide (4096 < (us.length : Int)) = true from decide_eq_true (by omega))
    go_enter Try.func4, Try.ntmps4
    go_wp2_with fail
    (with_reducible refine (big_any A us.length cap true _ hl2.out (by unfold maxLen; omega)).mono ?_)
    rintro e w ⟨rfl, rfl⟩
    go_wp2_with fail
    go_ret
    exact ⟨rfl, Below.refl _ _⟩
  have hl2 := Lib.hid (show decide (4096 < (us.length : Int)) = false from decide_eq_false (by omega))
  have HU := Lib.hid (show Code us from ⟨by omega, hby⟩)
  have HR := Lib.hid hr
  have HL := Lib.hid (show us.length ≤ maxLen by unfold maxLen; omega)
  clear hr hm hby hl
  have bb := Below.refl v.heap.size v
  have zb := bb.size
  go_enter Try.func4, Try.ntmps4
  go_wp2_with fail
  (with_reducible refine (big_any A us.length cap false _ hl2.out HL.out).mono ?_)
  rintro e w ⟨rfl, rfl⟩
  go_wp2_with fail
  (with_reducible refine (spec_DrawTurnsOf _ _ us _ HU.out HR.out).mono ?_)
  rintro e w1 ⟨n, rfl, hb1⟩
  replace bb := hb1
  replace zb := hb1.size
  clear hb1
  go_wp2_with fail
  (with_reducible refine (impl_TurnsOf n _).mono ?_)
  rintro e wq ⟨rfl, rfl⟩
  go_wp2_with fail
  (with_reducible refine (spec_TurnsOf n _).mono ?_)
  rintro e wq ⟨rfl, rfl⟩
  go_wp2_with fail
  (with_reducible refine (spec_DrawPointOn _ _ us _ HU.out ((HR.out.keep bb).more zb)).mono ?_)
  rintro e w3 ⟨a, b, rfl, hb1⟩
  replace bb : Below v.heap.size v w3 := bb.trans (hb1.mono zb)
  have zb := bb.size
  clear hb1
  go_wp2_with fail
  (with_reducible refine (impl_PointOn a b _).mono ?_)
  rintro e wq ⟨rfl, rfl⟩
  go_wp2_with fail
  (with_reducible refine (spec_PointOn a b _).mono ?_)
  rintro e w4 ⟨rfl, hb1⟩
  replace bb : Below v.heap.size v w4 := Below.trans (by (repeat (first | with_reducible exact Below.refl _ _ | with_reducible assumption | ((with_reducible refine Bw.set ?_ ?_); rotate_left; focus omega) | ((with_reducible refine Bw.al ?_ ?_); rotate_left; focus (first | omega | (simp; done) | (simp; omega))) | with_reducible refine Below.drew ?_ | with_reducible refine Bw.dr ?_ _))) (hb1.mono (by first | omega | (simp; omega)))
  have zb := bb.size
  clear hb1
  rcases point_law a b with ⟨x, y, e1, k1, k2, x1, x2, y1, y2, k3, k4⟩ | e1
  · rw [e1]
    clear e1
    have xx := mul_in (x := x) (A := 10001) (n := x) (B := 10001) ⟨by omega, by omega⟩ ⟨by omega, by omega⟩
    have yy := mul_in (x := y) (A := 10001) (n := y) (B := 10001) ⟨by omega, by omega⟩ ⟨by omega, by omega⟩
    have aa := mul_in (x := a + 2) (A := 10002) (n := a + 2) (B := 10002) ⟨by omega, by omega⟩ ⟨by omega, by omega⟩
    have g1 : decide ((a + 2) * (a + 2) < x * x + y * y) = false := decide_eq_false (by omega)
    by_cases a2 : a ≤ 2
    · rw [show max 0 (a - 2) = 0 by omega] at k4
      have k5 : 0 ≤ x * x + y * y := by omega
      have g2 : decide (x * x + y * y < 0) = false := decide_eq_false (by omega)
      clear k4 k3
      by_cases h : -100000 ≤ n ∧ n ≤ 100000
      · rw [turnsF_y h]
        have e3 : n / 720 * 720 + n % 720 = n := by omega
        have e4 : 0 ≤ n % 720 ∧ n % 720 < 720 := by omega
        have e5 : -200 ≤ n / 720 ∧ n / 720 ≤ 200 := by omega
        obtain ⟨h, h'⟩ := h
        obtain ⟨e4, e6⟩ := e4
        generalize n / 720 = t at *
        generalize n % 720 = r at *
        have e7 : (t * 720 + r == n) = true := by simp [e3]
        clear e3
        go_wp2_with fail
        go_ret
        exact ⟨rfl, bb⟩
      · rw [turnsF_n h]
        clear h
        go_wp2_with fail
        go_ret
        exact ⟨rfl, bb⟩
    · rw [show max 0 (a - 2) = a - 2 by omega] at k4
      have mm := mul_in (x := a - 2) (A := 10002) (n := a - 2) (B := 10002) ⟨by omega, by omega⟩ ⟨by omega, by omega⟩
      have g2 : decide (x * x + y * y < (a - 2) * (a - 2)) = false := decide_eq_false (by omega)
      clear k3
      by_cases h : -100000 ≤ n ∧ n ≤ 100000
      · rw [turnsF_y h]
        have e3 : n / 720 * 720 + n % 720 = n := by omega
        have e4 : 0 ≤ n % 720 ∧ n % 720 < 720 := by omega
        have e5 : -200 ≤ n / 720 ∧ n / 720 ≤ 200 := by omega
        obtain ⟨h, h'⟩ := h
        obtain ⟨e4, e6⟩ := e4
        generalize n / 720 = t at *
        generalize n % 720 = r at *
        have e7 : (t * 720 + r == n) = true := by simp [e3]
        clear e3
        go_wp2_with fail
        go_ret
        exact ⟨rfl, bb⟩
      · rw [turnsF_n h]
        clear h
        go_wp2_with fail
        go_ret
        exact ⟨rfl, bb⟩
  · rw [e1]
    by_cases h : -100000 ≤ n ∧ n ≤ 100000
    · rw [turnsF_y h]
      have e3 : n / 720 * 720 + n % 720 = n := by omega
      have e4 : 0 ≤ n % 720 ∧ n % 720 < 720 := by omega
      have e5 : -200 ≤ n / 720 ∧ n / 720 ≤ 200 := by omega
      obtain ⟨h, h'⟩ := h
      obtain ⟨e4, e6⟩ := e4
      generalize n / 720 = t at *
      generalize n % 720 = r at *
      have e7 : (t * 720 + r == n) = true := by simp [e3]
      clear e3
      go_wp2_with fail
      go_ret
      exact ⟨rfl, bb⟩
    · rw [turnsF_n h]
      clear h
      go_wp2_with fail
      go_ret
      exact ⟨rfl, bb⟩

end Go.Proofs.Ytjfhhdplgacnhaa
