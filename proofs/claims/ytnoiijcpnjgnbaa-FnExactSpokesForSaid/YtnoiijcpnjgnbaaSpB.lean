/- Stocks of spokes and the choice out of one. Conditions: those that each theorem names. -/
import Derived.Test.YtnoiijcpnjgnbaaSl
namespace Go.Proofs.Ytnoiijcpnjgnbaa
open Go.RowKit

/-- The j-th number lies from 0 to n - 1 and is greater than the one ahead of it. -/
def okAt (n : Int) (xs : List Int) (j : Nat) : Bool := inB (xs.getD j 0) 0 (n - 1) && (decide (j = 0) || decide (xs.getD (j - 1) 0 < xs.getD j 0))
def risesB (n : Int) (xs : List Int) : Bool := (List.range xs.length).all (okAt n xs)
theorem rises_t {n : Int} {xs : List Int} (h : ∀ j, j < xs.length → okAt n xs j = true) : risesB n xs = true := by
  simp only [risesB, List.all_eq_true, List.mem_range]
  exact h
theorem rises_f {n : Int} {xs : List Int} {j : Nat} (hj : j < xs.length) (h : okAt n xs j = false) : risesB n xs = false := by
  rw [Bool.eq_false_iff]
  intro k
  simp only [risesB, List.all_eq_true, List.mem_range] at k
  rw [k j hj] at h
  cases h
theorem rises_get {n : Int} {xs : List Int} (h : risesB n xs = true) {j : Nat} (hj : j < xs.length) : okAt n xs j = true := by
  simp only [risesB, List.all_eq_true, List.mem_range] at h
  exact h j hj
theorem okAt_in {n x : Int} {xs : List Int} {j : Nat} (hx : xs.getD j 0 = x) (h : inB x 0 (n - 1) = false) : okAt n xs j = false := by simp only [okAt, hx, h, Bool.false_and]
theorem okAt_0 {n x : Int} {xs : List Int} {j : Nat} (hx : xs.getD j 0 = x) (h : inB x 0 (n - 1) = true) (h0 : j = 0) : okAt n xs j = true := by simp only [okAt, hx, h, Bool.true_and]; simp [h0]
theorem okAt_t {n x y : Int} {xs : List Int} {j : Nat} (hx : xs.getD j 0 = x) (hy : xs.getD (j - 1) 0 = y) (h : inB x 0 (n - 1) = true) (h0 : y < x) : okAt n xs j = true := by simp only [okAt, hx, hy, h, Bool.true_and]; simp [h0]
theorem okAt_n {n x y : Int} {xs : List Int} {j : Nat} (hx : xs.getD j 0 = x) (hy : xs.getD (j - 1) 0 = y) (h1 : 0 < j) (h0 : ¬ y < x) : okAt n xs j = false := by
  simp only [okAt, hx, hy]
  rw [Bool.and_eq_false_iff]
  right
  simp [h0]; omega
def stockB (xs : List Int) : Bool := risesB 5001 xs && decide (xs.length ≤ 30)
theorem stock_long {xs : List Int} (h : 30 < xs.length) : stockB xs = false := by
  simp only [stockB, Bool.and_eq_false_iff, decide_eq_false_iff_not]
  omega
theorem stock_short {xs : List Int} (h : xs.length ≤ 30) : stockB xs = risesB 5001 xs := by simp [stockB, h]
theorem stock_t {xs : List Int} (h : stockB xs = true) : xs.length ≤ 30 ∧ ∀ j, j < xs.length → 0 ≤ xs.getD j 0 ∧ xs.getD j 0 ≤ 5000 := by
  simp only [stockB, Bool.and_eq_true, decide_eq_true_eq] at h
  refine ⟨h.2, fun j hj => ?_⟩
  have k := rises_get h.1 hj
  simp only [okAt, Bool.and_eq_true] at k
  have := inB_t k.1
  omega
/-- The last of the first k numbers that lies from L - 20 to L + 10, or -1. -/
def chooseF (xs : List Int) (L : Int) : Nat → Int
  | 0 => -1
  | k + 1 => if inB (xs.getD k 0) (L - 20) (L + 10) then xs.getD k 0 else chooseF xs L k
theorem choose_yes {xs : List Int} {L x : Int} {k : Nat} (hx : xs.getD k 0 = x) (h : inB x (L - 20) (L + 10) = true) : chooseF xs L (k + 1) = x := by simp only [chooseF, hx, h, if_true]
theorem choose_no {xs : List Int} {L x : Int} {k : Nat} (hx : xs.getD k 0 = x) (h : inB x (L - 20) (L + 10) = false) : chooseF xs L (k + 1) = chooseF xs L k := by rw [chooseF, hx, h]; rfl
def chF (xs : List Int) (L : Int) : Int := chooseF xs L xs.length
theorem chooseF_bd {xs : List Int} (h : ∀ j, j < xs.length → 0 ≤ xs.getD j 0 ∧ xs.getD j 0 ≤ 5000) (L : Int) : ∀ k, k ≤ xs.length → chooseF xs L k = -1 ∨ (0 ≤ chooseF xs L k ∧ chooseF xs L k ≤ 5000)
  | 0, _ => .inl rfl
  | k + 1, hk => by
    rw [chooseF]
    split
    · exact .inr (h k (by omega))
    · exact chooseF_bd h L k (by omega)
theorem chF_bd {xs : List Int} (h : stockB xs = true) (L : Int) : chF xs L = -1 ∨ (0 ≤ chF xs L ∧ chF xs L ≤ 5000) := chooseF_bd (stock_t h).2 L _ (Nat.le_refl _)

set_option maxHeartbeats 2000000 in
theorem impl_isStock (A : Option Addr) (c : Nat) (xs : List Int) (w : World) (hl : xs.length ≤ 1048576) (hr : Rd w w.heap.size A (iv xs)) :
    Calls Try.prog 37 #[.slice A xs.length c] w fun e w' => e = .returned (.bool (stockB xs)) ∧ w = w' := by
  have HR := Lib.hid hr
  clear hr
  by_cases h30 : 30 < xs.length
  · go_enter Try.func37, Try.ntmps37
    go_wp2_with fail
    go_ret
    exact ⟨retb (stock_long h30).symm, rfl⟩
  have HS := Lib.hid (stock_short (xs := xs) (by omega))
  go_enter Try.func37, Try.ntmps37
  go_wp2_with fail
  go_loop [10, 3, 4] (fun s10 _ _ => ∃ k : Nat, k ≤ xs.length ∧ s10 = .int .i64 k ∧ ∀ j, j < k → okAt 5001 xs j = true) (fun s10 _ _ => xs.length - (intOf s10).toNat)
  case atStart => exact ⟨0, Nat.zero_le _, rfl, fun j h => absurd h (by omega)⟩
  case round =>
    obtain ⟨k, hk, rfl, hok⟩ := hrel
    have HO := Lib.hid hok
    clear hok
    by_cases hlt : k < xs.length
    · obtain ⟨ad, rfl, ha⟩ := HR.out.int hlt
      generalize hx : xs.getD k 0 = x at *
      have HX := Lib.hid hx
      clear hx
      rcases h1 : inB x 0 5000 with _ | _
      · have H1 := Lib.hid h1
        go_wp2_with fail
        go_wp2_with fail
        refine (impl_within _ _ _ _).mono ?_
        rintro e w1 ⟨rfl, rfl⟩
        rw [H1.out]
        go_wp2_with fail
        go_ret
        exact ⟨retb (by rw [HS.out, rises_f hlt (okAt_in HX.out H1.out)]), rfl⟩
      have H1 := Lib.hid h1
      clear h1
      by_cases h0 : k = 0
      · have H0 := Lib.hid h0
        have h0' : ¬ 0 < (k : Int) := by omega
        clear h0
        go_wp2_with fail
        go_wp2_with fail
        refine (impl_within _ _ _ _).mono ?_
        rintro e w1 ⟨rfl, rfl⟩
        rw [H1.out]
        go_wp2_with fail
        go_round
        case rel =>
          refine ⟨k + 1, by omega, by go_num, fun j hj => ?_⟩
          by_cases e : j = k
          · rw [e]; exact okAt_0 HX.out H1.out H0.out
          · exact HO.out j (by omega)
        case measure => simp [intOf]; omega
      · obtain ⟨ad', e', hb⟩ := HR.out.int (k := k - 1) (by omega)
        cases e'
        generalize hy : xs.getD (k - 1) 0 = y at *
        have HY := Lib.hid hy
        clear hy
        by_cases h2 : y < x
        · go_wp2_with fail
          go_wp2_with fail
          refine (impl_within _ _ _ _).mono ?_
          rintro e w1 ⟨rfl, rfl⟩
          rw [H1.out]
          go_wp2_with fail
          go_round
          case rel =>
            refine ⟨k + 1, by omega, by go_num, fun j hj => ?_⟩
            by_cases e : j = k
            · rw [e]; exact okAt_t HX.out HY.out H1.out h2
            · exact HO.out j (by omega)
          case measure => simp [intOf]; omega
        · go_wp2_with fail
          go_wp2_with fail
          refine (impl_within _ _ _ _).mono ?_
          rintro e w1 ⟨rfl, rfl⟩
          rw [H1.out]
          go_wp2_with fail
          go_ret
          exact ⟨retb (by rw [HS.out, rises_f hlt (okAt_n HX.out HY.out (by omega) (by omega))]), rfl⟩
    · obtain rfl : k = xs.length := by omega
      go_wp2_with fail
      go_ret
      exact ⟨retb (by rw [HS.out, rises_t HO.out]), rfl⟩
theorem spec_In_b {n lo hi : Int} {b : Bool} (h : inB n lo hi = b) (w : World) : Calls Try.prog 35 #[.int .i64 n, .int .i64 lo, .int .i64 hi] w fun e w' => e = .returned (.bool b) ∧ w = w' := by
  subst h
  exact spec_In n lo hi w
set_option maxHeartbeats 2000000 in
theorem spec_Rises (A : Option Addr) (c : Nat) (n : Int) (xs : List Int) (w : World) (hn0 : 0 ≤ n) (hn1 : n ≤ 1000000000000) (hl : xs.length ≤ 1048576) (hr : Rd w w.heap.size A (iv xs)) :
    Calls Try.prog 58 #[.slice A xs.length c, .int .i64 n] w fun e w' => e = .returned (.bool (risesB n xs)) ∧ Below w.heap.size w w' := by
  have HR := Lib.hid hr
  clear hr
  go_enter Try.func58, Try.ntmps58
  go_wp2_with fail
  go_loopw [5] (fun s5 wr => ∃ k : Nat, k ≤ xs.length ∧ s5 = .int .i64 k ∧ (∀ j, j < k → okAt n xs j = true) ∧ Below w.heap.size w wr) (fun s5 _ => xs.length - (intOf s5).toNat)
  case atStart => exact ⟨0, Nat.zero_le _, rfl, fun j h => absurd h (by omega), by (repeat (first | with_reducible exact Below.refl _ _ | with_reducible assumption | ((with_reducible refine Bw.set ?_ ?_); rotate_left; focus omega) | ((with_reducible refine Bw.al ?_ ?_); rotate_left; focus (first | omega | (simp; done) | (simp; omega))) | with_reducible refine Below.drew ?_ | with_reducible refine Bw.dr ?_ _))⟩
  case round =>
    obtain ⟨k, hk, rfl, hok, hb⟩ := hrel
    have HO := Lib.hid hok
    clear hok
    have hz := hb.size
    have HB := Lib.hid hb
    clear hb
    by_cases hlt : k < xs.length
    · have hlt' : (k : Int) < xs.length := by omega
      obtain ⟨ad, rfl, ha⟩ := (HR.out.keep HB.out).int hlt
      have HR2 := Lib.hid ((HR.out.keep HB.out).more hz)
      replace ha : ∀ y : Aft wr, y.w.cell? (ad.add k) = some (.int .i64 (xs.getD k 0)) := fun y => by
        obtain ⟨_, e, h⟩ := (HR2.out.keep y.hb).int hlt
        cases e; exact h
      generalize hx : xs.getD k 0 = x at *
      have HX := Lib.hid hx
      clear hx
      have en : IntKind.i64.wrap (n - 1) = n - 1 := IntWalk.i64_in _ (by omega)
      rcases h1 : inB x 0 (n - 1) with _ | _
      · have H1 := Lib.hid h1
        clear h1
        go_wp2_with fail
        refine region_aft wr (by kernel_rfl) (by kernel_rfl) (Below.refl _ _) ?_
        repeat (go_big_quiet_step (first | (go_at_call 35; exact aft_pure (spec_In_b H1.out _))))
        refine wpQuiet_nil ?_
        rintro _ ⟨⟨w2, b2⟩, rfl⟩
        go_wp2_with fail
        go_ret
        exact ⟨retb (by rw [rises_f hlt (okAt_in HX.out H1.out)]), HB.out.trans (b2.mono hz)⟩
      have H1 := Lib.hid h1
      clear h1
      by_cases h0 : k = 0
      · have H0 := Lib.hid h0
        have h0' : decide (0 < k) = false := decide_eq_false (by omega)
        clear h0
        go_wp2_with fail
        refine region_aft wr (by kernel_rfl) (by kernel_rfl) (Below.refl _ _) ?_
        repeat (go_big_quiet_step (first | (go_at_call 35; exact aft_pure (spec_In_b H1.out _))))
        refine wpQuiet_nil ?_
        rintro _ ⟨⟨w2, b2⟩, rfl⟩
        go_wp2_with fail
        go_roundw
        case rel =>
          refine ⟨k + 1, by omega, by go_num, fun j hj => ?_, HB.out.trans (b2.mono hz)⟩
          by_cases e : j = k
          · rw [e]; exact okAt_0 HX.out H1.out H0.out
          · exact HO.out j (by omega)
        case measure => simp [intOf]; omega
      · have hb' : ∀ y : Aft wr, y.w.cell? (ad.add (k - 1)) = some (.int .i64 (xs.getD (k - 1) 0)) := fun y => by
          obtain ⟨_, e, h⟩ := (HR2.out.keep y.hb).int (k := k - 1) (by omega)
          cases e; exact h
        generalize hy : xs.getD (k - 1) 0 = y at *
        have HY := Lib.hid hy
        clear hy
        have hk0 : decide (0 < k) = true := decide_eq_true (by omega)
        have e1 : IntKind.i64.wrap ((k : Int) - 1) = (k : Int) - 1 := IntWalk.i64_in _ (by omega)
        have e2 : ((k : Int) - 1).toNat = k - 1 := by omega
        have e3 : (0 : Int) ≤ (k : Int) - 1 := by omega
        have e4 : (k : Int) - 1 < xs.length := by omega
        by_cases h2 : y < x
        · have h2' : decide (x ≤ y) = false := decide_eq_false (by omega)
          go_wp2_with fail
          refine region_aft wr (by kernel_rfl) (by kernel_rfl) (Below.refl _ _) ?_
          repeat (go_big_quiet_step (first | (go_at_call 35; exact aft_pure (spec_In_b H1.out _))))
          refine wpQuiet_nil ?_
          rintro _ ⟨⟨w2, b2⟩, rfl⟩
          go_wp2_with fail
          go_roundw
          case rel =>
            refine ⟨k + 1, by omega, by go_num, fun j hj => ?_, HB.out.trans (b2.mono hz)⟩
            by_cases e : j = k
            · rw [e]; exact okAt_t HX.out HY.out H1.out h2
            · exact HO.out j (by omega)
          case measure => simp [intOf]; omega
        · have h2' : x ≤ y := by omega
          go_wp2_with fail
          refine region_aft wr (by kernel_rfl) (by kernel_rfl) (Below.refl _ _) ?_
          repeat (go_big_quiet_step (first | (go_at_call 35; exact aft_pure (spec_In_b H1.out _))))
          refine wpQuiet_nil ?_
          rintro _ ⟨⟨w2, b2⟩, rfl⟩
          go_wp2_with fail
          go_ret
          exact ⟨retb (by rw [rises_f hlt (okAt_n HX.out HY.out (by omega) (by omega))]), HB.out.trans (b2.mono hz)⟩
    · obtain rfl : k = xs.length := by omega
      go_wp2_with fail
      go_ret
      exact ⟨retb (by rw [rises_t HO.out]), HB.out⟩
set_option maxHeartbeats 1000000 in
theorem spec_Stock (A : Option Addr) (c : Nat) (xs : List Int) (w : World) (hl : xs.length ≤ 1048576) (hr : Rd w w.heap.size A (iv xs)) :
    Calls Try.prog 34 #[.slice A xs.length c] w fun e w' => e = .returned (.bool (stockB xs)) ∧ Below w.heap.size w w' := by
  have HR := Lib.hid hr
  clear hr
  rcases h1 : risesB 5001 xs with _ | _
  · have H1 := Lib.hid h1
    clear h1
    go_enter Try.func34, Try.ntmps34
    go_wp2_with fail
    refine (spec_Rises _ _ _ _ _ (by omega) (by omega) hl HR.out).mono ?_
    rintro e w1 ⟨rfl, hb1⟩
    rw [H1.out]
    go_wp2_with fail
    go_ret
    exact ⟨retb (by rw [stockB, H1.out]; rfl), hb1⟩
  have H1 := Lib.hid h1
  clear h1
  by_cases h2 : xs.length ≤ 30
  all_goals
    go_enter Try.func34, Try.ntmps34
    go_wp2_with fail
    refine (spec_Rises _ _ _ _ _ (by omega) (by omega) hl HR.out).mono ?_
    rintro e w1 ⟨rfl, hb1⟩
    rw [H1.out]
    go_wp2_with fail
    go_ret
    exact ⟨retb (by rw [stockB, H1.out]; first | (simp [h2]; done) | (simp [h2]; omega)), hb1⟩
set_option maxHeartbeats 1000000 in
theorem impl_choose (A : Option Addr) (c : Nat) (xs : List Int) (L : Int) (w : World) (hl : xs.length ≤ 1048576) (h0 : -100000 ≤ L) (h1 : L ≤ 100000) (hr : Rd w w.heap.size A (iv xs)) :
    Calls Try.prog 39 #[.slice A xs.length c, .int .i64 L] w fun e w' => e = .returned (.int .i64 (chF xs L)) ∧ w = w' := by
  have HR := Lib.hid hr
  clear hr
  go_enter Try.func39, Try.ntmps39
  go_wp2_with fail
  go_loop [10, 5, 7] (fun s10 s5 _ => ∃ k : Nat, k ≤ xs.length ∧ s10 = .int .i64 k ∧ s5 = .int .i64 (chooseF xs L k)) (fun s10 _ _ => xs.length - (intOf s10).toNat)
  case atStart => exact ⟨0, Nat.zero_le _, rfl, rfl⟩
  case round =>
    obtain ⟨k, hk, rfl, rfl⟩ := hrel
    by_cases hlt : k < xs.length
    · obtain ⟨ad, rfl, ha⟩ := HR.out.int hlt
      generalize hx : xs.getD k 0 = x at *
      have HX := Lib.hid hx
      clear hx
      rcases h2 : inB x (L - 20) (L + 10) with _ | _
      all_goals
        have H2 := Lib.hid h2
        clear h2
        go_wp2_with fail
        go_wp2_with fail
        refine (impl_within _ _ _ _).mono ?_
        rintro e w1 ⟨rfl, rfl⟩
        rw [H2.out]
        go_wp2_with fail
        go_round
      case rel => exact ⟨k + 1, by omega, by go_num, by rw [choose_no HX.out H2.out]⟩
      case measure => simp [intOf]; omega
      case rel => exact ⟨k + 1, by omega, by go_num, by rw [choose_yes HX.out H2.out]⟩
      case measure => simp [intOf]; omega
    · obtain rfl : k = xs.length := by omega
      go_wp2_with fail
      go_ret
      exact ⟨rfl, rfl⟩
set_option maxHeartbeats 1000000 in
theorem spec_Choose (A : Option Addr) (c : Nat) (xs : List Int) (L : Int) (w : World) (hl : xs.length ≤ 1048576) (h0 : -100000 ≤ L) (h1 : L ≤ 100000) (hr : Rd w w.heap.size A (iv xs)) :
    Calls Try.prog 36 #[.slice A xs.length c, .int .i64 L] w fun e w' => e = .returned (.int .i64 (chF xs L)) ∧ w = w' := by
  have HR := Lib.hid hr
  clear hr
  go_enter Try.func36, Try.ntmps36
  go_wp2_with fail
  go_loop [5] (fun s5 => ∃ k : Nat, k ≤ xs.length ∧ s5 = .int .i64 ((k : Int) - 1) ∧ chF xs L = chooseF xs L k) (fun s5 => (intOf s5 + 1).toNat)
  case atStart => exact ⟨xs.length, Nat.le_refl _, rfl, rfl⟩
  case round =>
    obtain ⟨k, hk, rfl, hc⟩ := hrel
    have HC := Lib.hid hc
    clear hc
    rcases k with _ | k
    · go_wp2_with fail
      go_ret
      exact ⟨reti HC.out.symm, rfl⟩
    · have e : ((k + 1 : Nat) : Int) - 1 = (k : Int) := by omega
      rw [e]
      clear e
      obtain ⟨ad, rfl, ha⟩ := HR.out.int (k := k) (by omega)
      generalize hx : xs.getD k 0 = x at *
      have HX := Lib.hid hx
      clear hx
      rcases h2 : inB x (L - 20) (L + 10) with _ | _
      · have H2 := Lib.hid h2
        clear h2
        go_wp2_with fail
        go_wp2_with fail
        refine (spec_In _ _ _ _).mono ?_
        rintro e w1 ⟨rfl, rfl⟩
        rw [H2.out]
        go_wp2_with fail
        go_round
        case rel => exact ⟨k, by omega, rfl, by rw [HC.out, choose_no HX.out H2.out]⟩
        case measure => simp [intOf]; try omega
      · have H2 := Lib.hid h2
        clear h2
        go_wp2_with fail
        go_wp2_with fail
        refine (spec_In _ _ _ _).mono ?_
        rintro e w1 ⟨rfl, rfl⟩
        rw [H2.out]
        go_wp2_with fail
        go_ret
        exact ⟨reti (by rw [HC.out, choose_yes HX.out H2.out]), rfl⟩

def chsF (xs : List Int) (L : Int) : Int × Int := if stockB xs then (if inB L 0 5000 then (if chF xs L < 0 then (0, 4) else (chF xs L, 0)) else (0, 2)) else (0, 1)
set_option maxHeartbeats 1000000 in
theorem impl_ChooseSpoke (A : Option Addr) (c : Nat) (xs : List Int) (L : Int) (w : World) (hl : xs.length ≤ 1048576) (hr : Rd w w.heap.size A (iv xs)) :
    Calls Try.prog 13 #[.slice A xs.length c, .int .i64 L] w fun e w' => e = .returned (.tuple #[.int .i64 (chsF xs L).1, .int .i64 (chsF xs L).2]) ∧ Below w.heap.size w w' := by
  have HR := Lib.hid hr
  clear hr
  rcases h1 : stockB xs with _ | _
  · have H1 := Lib.hid h1
    clear h1
    go_enter Try.func13, Try.ntmps13
    go_wp2_with fail
    refine (impl_isStock _ _ _ _ hl HR.out).mono ?_
    rintro e w1 ⟨rfl, rfl⟩
    rw [H1.out]
    go_wp2_with fail
    go_ret2
    exact ⟨by simp [chsF, H1.out], Below.refl _ _⟩
  have H1 := Lib.hid h1
  clear h1
  rcases h2 : inB L 0 5000 with _ | _
  · have H2 := Lib.hid h2
    clear h2
    go_enter Try.func13, Try.ntmps13
    go_wp2_with fail
    refine (impl_isStock _ _ _ _ hl HR.out).mono ?_
    rintro e w1 ⟨rfl, rfl⟩
    rw [H1.out]
    go_wp2_with fail
    refine (impl_within _ _ _ _).mono ?_
    rintro e w2 ⟨rfl, rfl⟩
    rw [H2.out]
    go_wp2_with fail
    go_ret2
    exact ⟨by simp [chsF, H1.out, H2.out], Below.refl _ _⟩
  have e2 := inB_t h2
  have H2 := Lib.hid h2
  clear h2
  have HB := Lib.hid (chF_bd H1.out L)
  by_cases h3 : chF xs L < 0
  all_goals
    go_enter Try.func13, Try.ntmps13
    go_wp2_with fail
    refine (impl_isStock _ _ _ _ hl HR.out).mono ?_
    rintro e w1 ⟨rfl, rfl⟩
    rw [H1.out]
    go_wp2_with fail
    refine (impl_within _ _ _ _).mono ?_
    rintro e w2 ⟨rfl, rfl⟩
    rw [H2.out]
    go_wp2_with fail
    refine (impl_choose _ _ _ _ _ hl (by omega) (by omega) HR.out).mono ?_
    rintro e w3 ⟨rfl, rfl⟩
    go_wp2_with fail
    go_ret2
    exact ⟨by first | (simp [chsF, H1.out, H2.out, h3]; done) | (rw [chsF, if_pos H1.out, if_pos H2.out, if_neg (by omega)]; rfl), Below.refl _ _⟩

set_option maxHeartbeats 1000000 in
theorem spec_ChooseSpoke (A : Option Addr) (c : Nat) (xs : List Int) (L : Int) (w : World) (hl : xs.length ≤ 1048576) (hr : Rd w w.heap.size A (iv xs)) :
    Calls Try.prog 11 #[.slice A xs.length c, .int .i64 L] w fun e w' => e = .returned (.tuple #[.int .i64 (chsF xs L).1, .int .i64 (chsF xs L).2]) ∧ Below w.heap.size w w' := by
  have HR := Lib.hid hr
  clear hr
  rcases h1 : stockB xs with _ | _
  · have H1 := Lib.hid h1
    clear h1
    go_enter Try.func11, Try.ntmps11
    go_wp2_with fail
    refine (spec_Stock _ _ _ _ hl HR.out).mono ?_
    rintro e w1 ⟨rfl, hb1⟩
    rw [H1.out]
    go_wp2_with fail
    go_ret2
    exact ⟨by simp [chsF, H1.out], hb1⟩
  have H1 := Lib.hid h1
  clear h1
  rcases h2 : inB L 0 5000 with _ | _
  · have H2 := Lib.hid h2
    clear h2
    go_enter Try.func11, Try.ntmps11
    go_wp2_with fail
    refine (spec_Stock _ _ _ _ hl HR.out).mono ?_
    rintro e w1 ⟨rfl, hb1⟩
    rw [H1.out]
    go_wp2_with fail
    refine (spec_In _ _ _ _).mono ?_
    rintro e w2 ⟨rfl, rfl⟩
    rw [H2.out]
    go_wp2_with fail
    go_ret2
    exact ⟨by simp [chsF, H1.out, H2.out], hb1⟩
  have e2 := inB_t h2
  have H2 := Lib.hid h2
  clear h2
  have HB := Lib.hid (chF_bd H1.out L)
  by_cases h3 : chF xs L < 0
  all_goals
    go_enter Try.func11, Try.ntmps11
    go_wp2_with fail
    refine (spec_Stock _ _ _ _ hl HR.out).mono ?_
    rintro e w1 ⟨rfl, hb1⟩
    rw [H1.out]
    go_wp2_with fail
    refine (spec_In _ _ _ _).mono ?_
    rintro e w2 ⟨rfl, rfl⟩
    rw [H2.out]
    go_wp2_with fail
    refine (spec_Choose _ _ _ _ _ hl (by omega) (by omega) ((HR.out.keep hb1).more hb1.size)).mono ?_
    rintro e w3 ⟨rfl, rfl⟩
    go_wp2_with fail
    go_ret2
    exact ⟨by first | (simp [chsF, H1.out, H2.out, h3]; done) | (rw [chsF, if_pos H1.out, if_pos H2.out, if_neg (by omega)]; rfl), hb1⟩

end Go.Proofs.Ytnoiijcpnjgnbaa
