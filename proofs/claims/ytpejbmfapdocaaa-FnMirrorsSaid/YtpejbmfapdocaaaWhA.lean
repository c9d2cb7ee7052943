/- Contracts on holes, hubs and rims, the program's and the reference's, each to one plain function. No condition but what each theorem names. -/
import Derived.Test.YtpejbmfapdocaaaBase
namespace Go.Proofs.Ytpejbmfapdocaaa
open Go.RowKit

def holesB (n : Int) : Bool := decide (n = 12 ∨ n = 16 ∨ n = 20 ∨ n = 24 ∨ n = 32 ∨ n = 36 ∨ n = 40 ∨ n = 48)
theorem holesB_t {n : Int} (h : holesB n = true) : n = 12 ∨ n = 16 ∨ n = 20 ∨ n = 24 ∨ n = 32 ∨ n = 36 ∨ n = 40 ∨ n = 48 := of_decide_eq_true h
def hubB (h l r lo ro : Int) : Bool := holesB h && (inB l 200 1200 && (inB r 200 1200 && (inB lo 0 500 && inB ro 0 500)))
def rimB (h d o : Int) : Bool := holesB h && (inB d 2000 7000 && inB o (-100) 100)
theorem hubB_t {h l r lo ro : Int} (k : hubB h l r lo ro = true) : holesB h = true ∧ (200 ≤ l ∧ l ≤ 1200) ∧ (200 ≤ r ∧ r ≤ 1200) ∧ (0 ≤ lo ∧ lo ≤ 500) ∧ (0 ≤ ro ∧ ro ≤ 500) := by
  simp only [hubB, Bool.and_eq_true] at k
  exact ⟨k.1, inB_t k.2.1, inB_t k.2.2.1, inB_t k.2.2.2.1, inB_t k.2.2.2.2⟩
theorem rimB_t {h d o : Int} (k : rimB h d o = true) : holesB h = true ∧ (2000 ≤ d ∧ d ≤ 7000) ∧ (-100 ≤ o ∧ o ≤ 100) := by
  simp only [rimB, Bool.and_eq_true] at k
  exact ⟨k.1, inB_t k.2.1, inB_t k.2.2⟩

set_option maxHeartbeats 1000000 in
theorem impl_isHoles (n : Int) (w : World) : Calls Try.prog 118 #[.int .i64 n] w fun e w' => e = .returned (.bool (holesB n)) ∧ w = w' := by
  go_enter Try.func118, Try.ntmps118
  go_wp2
  all_goals
    go_ret
    refine ⟨retb ?_, rfl⟩
    simp_all [holesB]
def hasB (zs : List Int) (x : Int) : Bool := decide (x ∈ zs)
set_option maxHeartbeats 1000000 in
theorem spec_Has (g cap : Nat) (zs : List Int) (x : Int) (w : World) (hl : zs.length ≤ 1000000) (hc : ∀ i : Nat, i < zs.length → w.cell? ⟨g, i, none⟩ = some (.int .i64 (zs.getD i 0))) :
    Calls Try.prog 157 #[.slice (some ⟨g, 0, none⟩) zs.length cap, .int .i64 x] w fun e w' => e = .returned (.bool (hasB zs x)) ∧ w = w' := by
  have HC := Lib.hid hc
  clear hc
  go_enter Try.func157, Try.ntmps157
  go_wp2_with fail
  go_loop [5] (fun s => ∃ k : Nat, k ≤ zs.length ∧ s = .int .i64 k ∧ ∀ j : Nat, j < k → zs.getD j 0 ≠ x) (fun s => zs.length - (intOf s).toNat)
  case atStart => exact ⟨0, Nat.zero_le _, rfl, fun j h => absurd h (by omega)⟩
  case round =>
    obtain ⟨k, hk, rfl, hno⟩ := hrel
    have HN := Lib.hid hno
    clear hno
    by_cases hlt : k < zs.length
    · have hcell := HC.out k hlt
      generalize hz : zs.getD k 0 = z at *
      have HZ := Lib.hid hz
      clear hz
      by_cases hx : z = x
      · have hb : (z == x) = true := by simp [hx]
        have HX := Lib.hid hx
        clear hx
        go_wp2_with fail
        go_ret
        refine ⟨retb ?_, rfl⟩
        have hm : x ∈ zs := by
          rw [← HX.out, ← HZ.out, List.getD_eq_getElem?_getD, List.getElem?_eq_getElem hlt]
          exact List.getElem_mem hlt
        simp [hasB, hm]
      · have hb : (z == x) = false := by simp [hx]
        go_wp2_with fail
        go_round
        case rel =>
          refine ⟨k + 1, by omega, by go_num, fun j hj => ?_⟩
          by_cases e : j = k
          · subst e; rw [HZ.out]; exact hx
          · exact HN.out j (by omega)
        case measure => simp [intOf]; omega
    · go_wp2_with fail
      go_ret
      refine ⟨retb ?_, rfl⟩
      have hm : x ∉ zs := fun hm => by
        obtain ⟨j, hj, hjx⟩ := List.getElem_of_mem hm
        exact HN.out j (by omega) (by rw [List.getD_eq_getElem?_getD, List.getElem?_eq_getElem hj]; exact hjx)
      simp [hasB, hm]
set_option maxHeartbeats 1000000 in
theorem spec_Holes (n : Int) (w : World) : Calls Try.prog 135 #[.int .i64 n] w fun e w' => e = .returned (.bool (holesB n)) ∧ Below w.heap.size w w' := by
  go_enter Try.func135, Try.ntmps135
  go_wp2_with fail
  refine (spec_Has w.heap.size 8 [12, 16, 20, 24, 32, 36, 40, 48] n _ (by simp) (fun i hi => ?_)).mono ?_
  · rw [cell_new]
    simp only [List.length_cons, List.length_nil] at hi
    match i, hi with
    | 0, _ | 1, _ | 2, _ | 3, _ | 4, _ | 5, _ | 6, _ | 7, _ => rfl
  rintro e w' ⟨rfl, rfl⟩
  go_wp2_with fail
  go_ret
  exact ⟨retb (by simp [hasB, holesB]), by (repeat (first | with_reducible exact Below.refl _ _ | with_reducible assumption | ((with_reducible refine Bw.set ?_ ?_); rotate_left; focus omega) | ((with_reducible refine Bw.al ?_ ?_); rotate_left; focus (first | omega | (simp; done) | (simp; omega))) | with_reducible refine Below.drew ?_ | with_reducible refine Bw.dr ?_ _))⟩
set_option maxHeartbeats 400000 in
theorem impl_isDiameter (n : Int) (w : World) : Calls Try.prog 137 #[.int .i64 n] w fun e w' => e = .returned (.bool (inB n 2000 7000)) ∧ w = w' := by
  go_enter Try.func137, Try.ntmps137
  go_wp2_with fail
  refine (impl_within _ _ _ _).mono ?_
  rintro e w1 ⟨rfl, rfl⟩
  go_wp2_with fail
  go_ret
  exact ⟨rfl, rfl⟩

set_option maxHeartbeats 2000000 in
theorem impl_IsHub (h l r lo ro : Int) (w : World) : Calls Try.prog 29 #[.agg #[.int .i64 h, .int .i64 l, .int .i64 r, .int .i64 lo, .int .i64 ro]] w fun e w' => e = .returned (.bool (hubB h l r lo ro)) ∧ Below w.heap.size w w' := by
  rcases h1 : holesB h with _ | _
  · go_enter Try.func29, Try.ntmps29
    go_wp2_with fail
    refine (impl_isHoles _ _).mono ?_
    rintro e w1 ⟨rfl, rfl⟩
    go_wp2_with fail
    go_ret
    exact ⟨by simp [hubB, h1], by (repeat (first | with_reducible exact Below.refl _ _ | with_reducible assumption | ((with_reducible refine Bw.set ?_ ?_); rotate_left; focus omega) | ((with_reducible refine Bw.al ?_ ?_); rotate_left; focus (first | omega | (simp; done) | (simp; omega))) | with_reducible refine Below.drew ?_ | with_reducible refine Bw.dr ?_ _))⟩
  rcases h2 : inB l 200 1200 with _ | _
  · go_enter Try.func29, Try.ntmps29
    go_wp2_with fail
    refine (impl_isHoles _ _).mono ?_
    rintro e w1 ⟨rfl, rfl⟩
    go_wp2_with fail
    refine (impl_within _ _ _ _).mono ?_
    rintro e w1 ⟨rfl, rfl⟩
    go_wp2_with fail
    go_ret
    exact ⟨by simp [hubB, h1, h2], by (repeat (first | with_reducible exact Below.refl _ _ | with_reducible assumption | ((with_reducible refine Bw.set ?_ ?_); rotate_left; focus omega) | ((with_reducible refine Bw.al ?_ ?_); rotate_left; focus (first | omega | (simp; done) | (simp; omega))) | with_reducible refine Below.drew ?_ | with_reducible refine Bw.dr ?_ _))⟩
  rcases h3 : inB r 200 1200 with _ | _
  · go_enter Try.func29, Try.ntmps29
    go_wp2_with fail
    refine (impl_isHoles _ _).mono ?_
    rintro e w1 ⟨rfl, rfl⟩
    go_wp2_with fail
    refine (impl_within _ _ _ _).mono ?_
    rintro e w1 ⟨rfl, rfl⟩
    go_wp2_with fail
    refine (impl_within _ _ _ _).mono ?_
    rintro e w1 ⟨rfl, rfl⟩
    go_wp2_with fail
    go_ret
    exact ⟨by simp [hubB, h1, h2, h3], by (repeat (first | with_reducible exact Below.refl _ _ | with_reducible assumption | ((with_reducible refine Bw.set ?_ ?_); rotate_left; focus omega) | ((with_reducible refine Bw.al ?_ ?_); rotate_left; focus (first | omega | (simp; done) | (simp; omega))) | with_reducible refine Below.drew ?_ | with_reducible refine Bw.dr ?_ _))⟩
  rcases h4 : inB lo 0 500 with _ | _
  · go_enter Try.func29, Try.ntmps29
    go_wp2_with fail
    refine (impl_isHoles _ _).mono ?_
    rintro e w1 ⟨rfl, rfl⟩
    go_wp2_with fail
    refine (impl_within _ _ _ _).mono ?_
    rintro e w1 ⟨rfl, rfl⟩
    go_wp2_with fail
    refine (impl_within _ _ _ _).mono ?_
    rintro e w1 ⟨rfl, rfl⟩
    go_wp2_with fail
    refine (impl_within _ _ _ _).mono ?_
    rintro e w1 ⟨rfl, rfl⟩
    go_wp2_with fail
    go_ret
    exact ⟨by simp [hubB, h1, h2, h3, h4], by (repeat (first | with_reducible exact Below.refl _ _ | with_reducible assumption | ((with_reducible refine Bw.set ?_ ?_); rotate_left; focus omega) | ((with_reducible refine Bw.al ?_ ?_); rotate_left; focus (first | omega | (simp; done) | (simp; omega))) | with_reducible refine Below.drew ?_ | with_reducible refine Bw.dr ?_ _))⟩
  rcases h5 : inB ro 0 500 with _ | _
  · go_enter Try.func29, Try.ntmps29
    go_wp2_with fail
    refine (impl_isHoles _ _).mono ?_
    rintro e w1 ⟨rfl, rfl⟩
    go_wp2_with fail
    refine (impl_within _ _ _ _).mono ?_
    rintro e w1 ⟨rfl, rfl⟩
    go_wp2_with fail
    refine (impl_within _ _ _ _).mono ?_
    rintro e w1 ⟨rfl, rfl⟩
    go_wp2_with fail
    refine (impl_within _ _ _ _).mono ?_
    rintro e w1 ⟨rfl, rfl⟩
    go_wp2_with fail
    refine (impl_within _ _ _ _).mono ?_
    rintro e w1 ⟨rfl, rfl⟩
    go_wp2_with fail
    go_ret
    exact ⟨by simp [hubB, h1, h2, h3, h4, h5], by (repeat (first | with_reducible exact Below.refl _ _ | with_reducible assumption | ((with_reducible refine Bw.set ?_ ?_); rotate_left; focus omega) | ((with_reducible refine Bw.al ?_ ?_); rotate_left; focus (first | omega | (simp; done) | (simp; omega))) | with_reducible refine Below.drew ?_ | with_reducible refine Bw.dr ?_ _))⟩
  · go_enter Try.func29, Try.ntmps29
    go_wp2_with fail
    refine (impl_isHoles _ _).mono ?_
    rintro e w1 ⟨rfl, rfl⟩
    go_wp2_with fail
    refine (impl_within _ _ _ _).mono ?_
    rintro e w1 ⟨rfl, rfl⟩
    go_wp2_with fail
    refine (impl_within _ _ _ _).mono ?_
    rintro e w1 ⟨rfl, rfl⟩
    go_wp2_with fail
    refine (impl_within _ _ _ _).mono ?_
    rintro e w1 ⟨rfl, rfl⟩
    go_wp2_with fail
    refine (impl_within _ _ _ _).mono ?_
    rintro e w1 ⟨rfl, rfl⟩
    go_wp2_with fail
    go_ret
    exact ⟨by simp [hubB, h1, h2, h3, h4, h5], by (repeat (first | with_reducible exact Below.refl _ _ | with_reducible assumption | ((with_reducible refine Bw.set ?_ ?_); rotate_left; focus omega) | ((with_reducible refine Bw.al ?_ ?_); rotate_left; focus (first | omega | (simp; done) | (simp; omega))) | with_reducible refine Below.drew ?_ | with_reducible refine Bw.dr ?_ _))⟩
set_option maxHeartbeats 2000000 in
theorem spec_IsHub (h l r lo ro : Int) (w : World) : Calls Try.prog 113 #[.agg #[.int .i64 h, .int .i64 l, .int .i64 r, .int .i64 lo, .int .i64 ro]] w fun e w' => e = .returned (.bool (hubB h l r lo ro)) ∧ Below w.heap.size w w' := by
  rcases h1 : holesB h with _ | _
  · go_enter Try.func113, Try.ntmps113
    go_wp2_with fail
    refine (spec_Holes _ _).mono ?_
    rintro e w1 ⟨rfl, hb1⟩
    obtain ⟨c1, f1, zz, bb⟩ := kept1 hb1
    clear hb1
    go_wp2_with fail
    go_ret
    exact ⟨by simp [hubB, h1], by (repeat (first | with_reducible exact Below.refl _ _ | with_reducible assumption | ((with_reducible refine Bw.set ?_ ?_); rotate_left; focus omega) | ((with_reducible refine Bw.al ?_ ?_); rotate_left; focus (first | omega | (simp; done) | (simp; omega))) | with_reducible refine Below.drew ?_ | with_reducible refine Bw.dr ?_ _))⟩
  rcases h2 : inB l 200 1200 with _ | _
  · go_enter Try.func113, Try.ntmps113
    go_wp2_with fail
    refine (spec_Holes _ _).mono ?_
    rintro e w1 ⟨rfl, hb1⟩
    obtain ⟨c1, f1, zz, bb⟩ := kept1 hb1
    clear hb1
    go_wp2_with fail
    refine (spec_In _ _ _ _).mono ?_
    rintro e w1 ⟨rfl, rfl⟩
    go_wp2_with fail
    go_ret
    exact ⟨by simp [hubB, h1, h2], by (repeat (first | with_reducible exact Below.refl _ _ | with_reducible assumption | ((with_reducible refine Bw.set ?_ ?_); rotate_left; focus omega) | ((with_reducible refine Bw.al ?_ ?_); rotate_left; focus (first | omega | (simp; done) | (simp; omega))) | with_reducible refine Below.drew ?_ | with_reducible refine Bw.dr ?_ _))⟩
  rcases h3 : inB r 200 1200 with _ | _
  · go_enter Try.func113, Try.ntmps113
    go_wp2_with fail
    refine (spec_Holes _ _).mono ?_
    rintro e w1 ⟨rfl, hb1⟩
    obtain ⟨c1, f1, zz, bb⟩ := kept1 hb1
    clear hb1
    go_wp2_with fail
    refine (spec_In _ _ _ _).mono ?_
    rintro e w1 ⟨rfl, rfl⟩
    go_wp2_with fail
    refine (spec_In _ _ _ _).mono ?_
    rintro e w1 ⟨rfl, rfl⟩
    go_wp2_with fail
    go_ret
    exact ⟨by simp [hubB, h1, h2, h3], by (repeat (first | with_reducible exact Below.refl _ _ | with_reducible assumption | ((with_reducible refine Bw.set ?_ ?_); rotate_left; focus omega) | ((with_reducible refine Bw.al ?_ ?_); rotate_left; focus (first | omega | (simp; done) | (simp; omega))) | with_reducible refine Below.drew ?_ | with_reducible refine Bw.dr ?_ _))⟩
  rcases h4 : inB lo 0 500 with _ | _
  · go_enter Try.func113, Try.ntmps113
    go_wp2_with fail
    refine (spec_Holes _ _).mono ?_
    rintro e w1 ⟨rfl, hb1⟩
    obtain ⟨c1, f1, zz, bb⟩ := kept1 hb1
    clear hb1
    go_wp2_with fail
    refine (spec_In _ _ _ _).mono ?_
    rintro e w1 ⟨rfl, rfl⟩
    go_wp2_with fail
    refine (spec_In _ _ _ _).mono ?_
    rintro e w1 ⟨rfl, rfl⟩
    go_wp2_with fail
    refine (spec_In _ _ _ _).mono ?_
    rintro e w1 ⟨rfl, rfl⟩
    go_wp2_with fail
    go_ret
    exact ⟨by simp [hubB, h1, h2, h3, h4], by (repeat (first | with_reducible exact Below.refl _ _ | with_reducible assumption | ((with_reducible refine Bw.set ?_ ?_); rotate_left; focus omega) | ((with_reducible refine Bw.al ?_ ?_); rotate_left; focus (first | omega | (simp; done) | (simp; omega))) | with_reducible refine Below.drew ?_ | with_reducible refine Bw.dr ?_ _))⟩
  rcases h5 : inB ro 0 500 with _ | _
  · go_enter Try.func113, Try.ntmps113
    go_wp2_with fail
    refine (spec_Holes _ _).mono ?_
    rintro e w1 ⟨rfl, hb1⟩
    obtain ⟨c1, f1, zz, bb⟩ := kept1 hb1
    clear hb1
    go_wp2_with fail
    refine (spec_In _ _ _ _).mono ?_
    rintro e w1 ⟨rfl, rfl⟩
    go_wp2_with fail
    refine (spec_In _ _ _ _).mono ?_
    rintro e w1 ⟨rfl, rfl⟩
    go_wp2_with fail
    refine (spec_In _ _ _ _).mono ?_
    rintro e w1 ⟨rfl, rfl⟩
    go_wp2_with fail
    refine (spec_In _ _ _ _).mono ?_
    rintro e w1 ⟨rfl, rfl⟩
    go_wp2_with fail
    go_ret
    exact ⟨by simp [hubB, h1, h2, h3, h4, h5], by (repeat (first | with_reducible exact Below.refl _ _ | with_reducible assumption | ((with_reducible refine Bw.set ?_ ?_); rotate_left; focus omega) | ((with_reducible refine Bw.al ?_ ?_); rotate_left; focus (first | omega | (simp; done) | (simp; omega))) | with_reducible refine Below.drew ?_ | with_reducible refine Bw.dr ?_ _))⟩
  · go_enter Try.func113, Try.ntmps113
    go_wp2_with fail
    refine (spec_Holes _ _).mono ?_
    rintro e w1 ⟨rfl, hb1⟩
    obtain ⟨c1, f1, zz, bb⟩ := kept1 hb1
    clear hb1
    go_wp2_with fail
    refine (spec_In _ _ _ _).mono ?_
    rintro e w1 ⟨rfl, rfl⟩
    go_wp2_with fail
    refine (spec_In _ _ _ _).mono ?_
    rintro e w1 ⟨rfl, rfl⟩
    go_wp2_with fail
    refine (spec_In _ _ _ _).mono ?_
    rintro e w1 ⟨rfl, rfl⟩
    go_wp2_with fail
    refine (spec_In _ _ _ _).mono ?_
    rintro e w1 ⟨rfl, rfl⟩
    go_wp2_with fail
    go_ret
    exact ⟨by simp [hubB, h1, h2, h3, h4, h5], by (repeat (first | with_reducible exact Below.refl _ _ | with_reducible assumption | ((with_reducible refine Bw.set ?_ ?_); rotate_left; focus omega) | ((with_reducible refine Bw.al ?_ ?_); rotate_left; focus (first | omega | (simp; done) | (simp; omega))) | with_reducible refine Below.drew ?_ | with_reducible refine Bw.dr ?_ _))⟩
set_option maxHeartbeats 2000000 in
theorem impl_IsRim (h d o : Int) (w : World) : Calls Try.prog 71 #[.agg #[.int .i64 h, .int .i64 d, .int .i64 o]] w fun e w' => e = .returned (.bool (rimB h d o)) ∧ Below w.heap.size w w' := by
  rcases h1 : holesB h with _ | _
  · go_enter Try.func71, Try.ntmps71
    go_wp2_with fail
    refine (impl_isHoles _ _).mono ?_
    rintro e w1 ⟨rfl, rfl⟩
    go_wp2_with fail
    go_ret
    exact ⟨by simp [rimB, h1], by (repeat (first | with_reducible exact Below.refl _ _ | with_reducible assumption | ((with_reducible refine Bw.set ?_ ?_); rotate_left; focus omega) | ((with_reducible refine Bw.al ?_ ?_); rotate_left; focus (first | omega | (simp; done) | (simp; omega))) | with_reducible refine Below.drew ?_ | with_reducible refine Bw.dr ?_ _))⟩
  rcases h2 : inB d 2000 7000 with _ | _
  · go_enter Try.func71, Try.ntmps71
    go_wp2_with fail
    refine (impl_isHoles _ _).mono ?_
    rintro e w1 ⟨rfl, rfl⟩
    go_wp2_with fail
    refine (impl_isDiameter _ _).mono ?_
    rintro e w1 ⟨rfl, rfl⟩
    go_wp2_with fail
    go_ret
    exact ⟨by simp [rimB, h1, h2], by (repeat (first | with_reducible exact Below.refl _ _ | with_reducible assumption | ((with_reducible refine Bw.set ?_ ?_); rotate_left; focus omega) | ((with_reducible refine Bw.al ?_ ?_); rotate_left; focus (first | omega | (simp; done) | (simp; omega))) | with_reducible refine Below.drew ?_ | with_reducible refine Bw.dr ?_ _))⟩
  rcases h3 : inB o (-100) 100 with _ | _
  · go_enter Try.func71, Try.ntmps71
    go_wp2_with fail
    refine (impl_isHoles _ _).mono ?_
    rintro e w1 ⟨rfl, rfl⟩
    go_wp2_with fail
    refine (impl_isDiameter _ _).mono ?_
    rintro e w1 ⟨rfl, rfl⟩
    go_wp2_with fail
    refine (impl_within _ _ _ _).mono ?_
    rintro e w1 ⟨rfl, rfl⟩
    go_wp2_with fail
    go_ret
    exact ⟨by simp [rimB, h1, h2, h3], by (repeat (first | with_reducible exact Below.refl _ _ | with_reducible assumption | ((with_reducible refine Bw.set ?_ ?_); rotate_left; focus omega) | ((with_reducible refine Bw.al ?_ ?_); rotate_left; focus (first | omega | (simp; done) | (simp; omega))) | with_reducible refine Below.drew ?_ | with_reducible refine Bw.dr ?_ _))⟩
  · go_enter Try.func71, Try.ntmps71
    go_wp2_with fail
    refine (impl_isHoles _ _).mono ?_
    rintro e w1 ⟨rfl, rfl⟩
    go_wp2_with fail
    refine (impl_isDiameter _ _).mono ?_
    rintro e w1 ⟨rfl, rfl⟩
    go_wp2_with fail
    refine (impl_within _ _ _ _).mono ?_
    rintro e w1 ⟨rfl, rfl⟩
    go_wp2_with fail
    go_ret
    exact ⟨by simp [rimB, h1, h2, h3], by (repeat (first | with_reducible exact Below.refl _ _ | with_reducible assumption | ((with_reducible refine Bw.set ?_ ?_); rotate_left; focus omega) | ((with_reducible refine Bw.al ?_ ?_); rotate_left; focus (first | omega | (simp; done) | (simp; omega))) | with_reducible refine Below.drew ?_ | with_reducible refine Bw.dr ?_ _))⟩
set_option maxHeartbeats 2000000 in
theorem spec_IsRim (h d o : Int) (w : World) : Calls Try.prog 72 #[.agg #[.int .i64 h, .int .i64 d, .int .i64 o]] w fun e w' => e = .returned (.bool (rimB h d o)) ∧ Below w.heap.size w w' := by
  rcases h1 : holesB h with _ | _
  · go_enter Try.func72, Try.ntmps72
    go_wp2_with fail
    refine (spec_Holes _ _).mono ?_
    rintro e w1 ⟨rfl, hb1⟩
    obtain ⟨c1, f1, zz, bb⟩ := kept1 hb1
    clear hb1
    go_wp2_with fail
    go_ret
    exact ⟨by simp [rimB, h1], by (repeat (first | with_reducible exact Below.refl _ _ | with_reducible assumption | ((with_reducible refine Bw.set ?_ ?_); rotate_left; focus omega) | ((with_reducible refine Bw.al ?_ ?_); rotate_left; focus (first | omega | (simp; done) | (simp; omega))) | with_reducible refine Below.drew ?_ | with_reducible refine Bw.dr ?_ _))⟩
  rcases h2 : inB d 2000 7000 with _ | _
  · go_enter Try.func72, Try.ntmps72
    go_wp2_with fail
    refine (spec_Holes _ _).mono ?_
    rintro e w1 ⟨rfl, hb1⟩
    obtain ⟨c1, f1, zz, bb⟩ := kept1 hb1
    clear hb1
    go_wp2_with fail
    refine (spec_In _ _ _ _).mono ?_
    rintro e w1 ⟨rfl, rfl⟩
    go_wp2_with fail
    go_ret
    exact ⟨by simp [rimB, h1, h2], by (repeat (first | with_reducible exact Below.refl _ _ | with_reducible assumption | ((with_reducible refine Bw.set ?_ ?_); rotate_left; focus omega) | ((with_reducible refine Bw.al ?_ ?_); rotate_left; focus (first | omega | (simp; done) | (simp; omega))) | with_reducible refine Below.drew ?_ | with_reducible refine Bw.dr ?_ _))⟩
  rcases h3 : inB o (-100) 100 with _ | _
  · go_enter Try.func72, Try.ntmps72
    go_wp2_with fail
    refine (spec_Holes _ _).mono ?_
    rintro e w1 ⟨rfl, hb1⟩
    obtain ⟨c1, f1, zz, bb⟩ := kept1 hb1
    clear hb1
    go_wp2_with fail
    refine (spec_In _ _ _ _).mono ?_
    rintro e w1 ⟨rfl, rfl⟩
    go_wp2_with fail
    refine (spec_In _ _ _ _).mono ?_
    rintro e w1 ⟨rfl, rfl⟩
    go_wp2_with fail
    go_ret
    exact ⟨by simp [rimB, h1, h2, h3], by (repeat (first | with_reducible exact Below.refl _ _ | with_reducible assumption | ((with_reducible refine Bw.set ?_ ?_); rotate_left; focus omega) | ((with_reducible refine Bw.al ?_ ?_); rotate_left; focus (first | omega | (simp; done) | (simp; omega))) | with_reducible refine Below.drew ?_ | with_reducible refine Bw.dr ?_ _))⟩
  · go_enter Try.func72, Try.ntmps72
    go_wp2_with fail
    refine (spec_Holes _ _).mono ?_
    rintro e w1 ⟨rfl, hb1⟩
    obtain ⟨c1, f1, zz, bb⟩ := kept1 hb1
    clear hb1
    go_wp2_with fail
    refine (spec_In _ _ _ _).mono ?_
    rintro e w1 ⟨rfl, rfl⟩
    go_wp2_with fail
    refine (spec_In _ _ _ _).mono ?_
    rintro e w1 ⟨rfl, rfl⟩
    go_wp2_with fail
    go_ret
    exact ⟨by simp [rimB, h1, h2, h3], by (repeat (first | with_reducible exact Below.refl _ _ | with_reducible assumption | ((with_reducible refine Bw.set ?_ ?_); rotate_left; focus omega) | ((with_reducible refine Bw.al ?_ ?_); rotate_left; focus (first | omega | (simp; done) | (simp; omega))) | with_reducible refine Below.drew ?_ | with_reducible refine Bw.dr ?_ _))⟩

end Go.Proofs.Ytpejbmfapdocaaa
