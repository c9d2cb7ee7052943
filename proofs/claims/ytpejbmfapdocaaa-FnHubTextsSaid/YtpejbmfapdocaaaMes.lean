/- Measures as texts. Conditions: those that each theorem names. -/
import Derived.Test.YtpejbmfapdocaaaNum
namespace Go.Proofs.Ytpejbmfapdocaaa
open Go.RowKit

def dot : ByteArray := { data := #[46] }
/-- A measure of at least 0, in tenths, as a text; and any measure. -/
def mesU (u : Int) : ByteArray := decI (u / 10) ++ dot ++ decI (u % 10)
def mesB (v : Int) : ByteArray := if v < 0 then minus ++ mesU (-v) else mesU v
theorem mesB_n {v : Int} (h : v < 0) : mesB v = minus ++ mesU (-v) := by rw [mesB, if_pos h]
theorem mesB_p {v : Int} (h : 0 ≤ v) : mesB v = mesU v := by rw [mesB, if_neg (by omega)]
theorem mesU_size {u : Int} : (mesU u).size = (decI (u / 10)).size + 2 := by
  rw [mesU, ByteArray.size_append, ByteArray.size_append, decI_small (n := u % 10) (by omega) (by omega), dgB_size]
  have e : dot.size = 1 := rfl
  omega
theorem decI_13 {n : Int} (h0 : 0 ≤ n) (h1 : n ≤ 1000000000000) : 1 ≤ (decI n).size ∧ (decI n).size ≤ 14 := by
  have := decB_size 13 n.toNat (by omega)
  have := decB_pos n.toNat
  unfold decI
  omega
theorem mesU_bd {u : Int} (h0 : 0 ≤ u) (h1 : u ≤ 1000000000000) : 3 ≤ (mesU u).size ∧ (mesU u).size ≤ 16 := by
  have := mesU_size (u := u)
  have := decI_13 (n := u / 10) (by omega) (by omega)
  omega
theorem mesB_bd {v : Int} (h : isVal v = true) : 3 ≤ (mesB v).size ∧ (mesB v).size ≤ 17 := by
  have hb := inB_t h
  rcases Int.lt_or_le v 0 with h1 | h1
  · have := mesU_bd (u := -v) (by omega) (by omega)
    rw [mesB_n h1, ByteArray.size_append]
    have e : minus.size = 1 := rfl
    omega
  · have := mesU_bd h1 (by omega)
    rw [mesB_p h1]
    omega
def mtF (n : Int) : ByteArray × Int := if isVal n then (mesB n, 0) else (ByteArray.empty, 2)
theorem mtF_n {n : Int} (h : isVal n = false) : mtF n = (ByteArray.empty, 2) := by rw [mtF, h]; rfl
theorem mtF_y {n : Int} (h : isVal n = true) : mtF n = (mesB n, 0) := by rw [mtF, h]; rfl

set_option maxHeartbeats 400000 in
theorem impl_isValue {n : Int} {b : Bool} (h : isVal n = b) (w : World) : Calls Try.prog 108 #[.int .i64 n] w fun e w' => e = .returned (.bool b) ∧ w = w' := by
  subst h
  go_enter Try.func108, Try.ntmps108
  go_wp2_with fail
  refine (impl_within _ _ _ _).mono ?_
  rintro e w1 ⟨rfl, rfl⟩
  go_wp2_with fail
  go_ret
  exact ⟨rfl, rfl⟩
set_option maxHeartbeats 400000 in
theorem spec_Is {n : Int} {b : Bool} (h : isVal n = b) (w : World) : Calls Try.prog 144 #[.int .i64 n] w fun e w' => e = .returned (.bool b) ∧ w = w' := by
  subst h
  go_enter Try.func144, Try.ntmps144
  go_wp2_with fail
  refine (spec_In _ _ _ _).mono ?_
  rintro e w1 ⟨rfl, rfl⟩
  go_wp2_with fail
  go_ret
  exact ⟨rfl, rfl⟩
set_option maxHeartbeats 2000000 in
theorem impl_measure (n : Int) (w : World) (h : isVal n = true) : Calls Try.prog 143 #[.int .i64 n] w fun e w' => e = .returned (.string (mesB n)) ∧ Below w.heap.size w w' := by
  have hb := inB_t h
  clear h
  rcases Int.lt_or_le n 0 with h1 | h1
  · rw [mesB_n h1]
    obtain ⟨m, rfl⟩ : ∃ m : Int, n = -m := ⟨-n, by omega⟩
    rw [Int.neg_neg, mesU]
    have hm : 0 ≤ m := by omega
    have hm2 : m ≤ 1000000000000 := by omega
    have s1 := (decI_13 (n := m / 10) (by omega) (by omega)).2
    have s2 := (decI_13 (n := m % 10) (by omega) (by omega)).2
    have P1 := Lib.hid (numB_p (n := m / 10) (by omega))
    have P2 := Lib.hid (numB_p (n := m % 10) (by omega))
    go_enter Try.func143, Try.ntmps143
    go_wp2_with fail
    (with_reducible refine (impl_decimal (m / 10) _ (by omega) (by omega)).mono ?_)
    rintro e w1 ⟨rfl, hb1⟩
    rw [P1.out]
    go_wp2_with fail
    (with_reducible refine (impl_decimal (m % 10) _ (by omega) (by omega)).mono ?_)
    rintro e w2 ⟨rfl, hb2⟩
    rw [P2.out]
    go_wp2_with fail
    go_ret
    exact ⟨by simp only [← ByteArray.append_assoc]; rfl, hb1.trans (hb2.mono hb1.size)⟩
  · rw [mesB_p h1, mesU]
    have s1 := (decI_13 (n := n / 10) (by omega) (by omega)).2
    have s2 := (decI_13 (n := n % 10) (by omega) (by omega)).2
    have P1 := Lib.hid (numB_p (n := n / 10) (by omega))
    have P2 := Lib.hid (numB_p (n := n % 10) (by omega))
    go_enter Try.func143, Try.ntmps143
    go_wp2_with fail
    (with_reducible refine (impl_decimal (n / 10) _ (by omega) (by omega)).mono ?_)
    rintro e w1 ⟨rfl, hb1⟩
    rw [P1.out]
    go_wp2_with fail
    (with_reducible refine (impl_decimal (n % 10) _ (by omega) (by omega)).mono ?_)
    rintro e w2 ⟨rfl, hb2⟩
    rw [P2.out]
    go_wp2_with fail
    go_ret
    refine ⟨?_, hb1.trans (hb2.mono hb1.size)⟩
    have e : ({ data := #[] } : ByteArray) ++ decI (n / 10) = decI (n / 10) := by rw [show ({ data := #[] } : ByteArray) = ByteArray.empty from rfl, ByteArray.empty_append]
    first | rfl | (rw [← e]; rfl)
set_option maxHeartbeats 2000000 in
theorem spec_Measure_p (n : Int) (w : World) (h0 : 0 ≤ n) (h1 : n ≤ 1000000000000) : Calls Try.prog 145 #[.int .i64 n] w fun e w' => e = .returned (.string (mesU n)) ∧ Below w.heap.size w w' := by
  rw [mesU]
  have s1 := (decI_13 (n := n / 10) (by omega) (by omega)).2
  have s2 := (decI_13 (n := n % 10) (by omega) (by omega)).2
  go_enter Try.func145, Try.ntmps145
  go_wp2_with fail
  (with_reducible refine (spec_Dec (n / 10) _ (by omega) (by omega)).mono ?_)
  rintro e w1 ⟨rfl, hb1⟩
  go_wp2_with fail
  (with_reducible refine (spec_Dec (n % 10) _ (by omega) (by omega)).mono ?_)
  rintro e w2 ⟨rfl, hb2⟩
  go_wp2_with fail
  go_ret
  exact ⟨rfl, hb1.trans (hb2.mono hb1.size)⟩
set_option maxHeartbeats 2000000 in
theorem spec_Measure (n : Int) (w : World) (h : isVal n = true) : Calls Try.prog 145 #[.int .i64 n] w fun e w' => e = .returned (.string (mesB n)) ∧ Below w.heap.size w w' := by
  have hb := inB_t h
  clear h
  rcases Int.lt_or_le n 0 with h1 | h1
  · rw [mesB_n h1]
    have s1 := (mesU_bd (u := -n) (by omega) (by omega)).2
    go_enter Try.func145, Try.ntmps145
    go_wp2_with fail
    (with_reducible refine (spec_Measure_p (-n) _ (by omega) (by omega)).mono ?_)
    rintro e w1 ⟨rfl, hb1⟩
    go_wp2_with fail
    go_ret
    exact ⟨rfl, hb1⟩
  · rw [mesB_p h1]
    exact spec_Measure_p n w h1 (by omega)
set_option maxHeartbeats 1000000 in
theorem impl_MeasureText (n : Int) (w : World) : Calls Try.prog 81 #[.int .i64 n] w fun e w' => e = .returned (.tuple #[.string (mtF n).1, .int .i64 (mtF n).2]) ∧ Below w.heap.size w w' := by
  rcases h1 : isVal n with _ | _
  · rw [mtF_n h1]
    have H1 := Lib.hid h1
    clear h1
    go_enter Try.func81, Try.ntmps81
    go_wp2_with fail
    refine (impl_isValue H1.out _).mono ?_
    rintro e w1 ⟨rfl, rfl⟩
    go_wp2_with fail
    go_ret2
    exact ⟨rfl, by (repeat (first | with_reducible exact Below.refl _ _ | with_reducible assumption | ((with_reducible refine Bw.set ?_ ?_); rotate_left; focus omega) | ((with_reducible refine Bw.al ?_ ?_); rotate_left; focus (first | omega | (simp; done) | (simp; omega))) | with_reducible refine Below.drew ?_ | with_reducible refine Bw.dr ?_ _))⟩
  · rw [mtF_y h1]
    have H1 := Lib.hid h1
    clear h1
    go_enter Try.func81, Try.ntmps81
    go_wp2_with fail
    refine (impl_isValue H1.out _).mono ?_
    rintro e w1 ⟨rfl, rfl⟩
    go_wp2_with fail
    refine (impl_measure _ _ H1.out).mono ?_
    rintro e w2 ⟨rfl, hb2⟩
    go_wp2_with fail
    go_ret2
    exact ⟨rfl, hb2⟩
set_option maxHeartbeats 1000000 in
theorem spec_MeasureText (n : Int) (w : World) : Calls Try.prog 82 #[.int .i64 n] w fun e w' => e = .returned (.tuple #[.string (mtF n).1, .int .i64 (mtF n).2]) ∧ Below w.heap.size w w' := by
  rcases h1 : isVal n with _ | _
  · rw [mtF_n h1]
    have H1 := Lib.hid h1
    clear h1
    go_enter Try.func82, Try.ntmps82
    go_wp2_with fail
    refine (spec_Is H1.out _).mono ?_
    rintro e w1 ⟨rfl, rfl⟩
    go_wp2_with fail
    go_ret2
    exact ⟨rfl, by (repeat (first | with_reducible exact Below.refl _ _ | with_reducible assumption | ((with_reducible refine Bw.set ?_ ?_); rotate_left; focus omega) | ((with_reducible refine Bw.al ?_ ?_); rotate_left; focus (first | omega | (simp; done) | (simp; omega))) | with_reducible refine Below.drew ?_ | with_reducible refine Bw.dr ?_ _))⟩
  · rw [mtF_y h1]
    have H1 := Lib.hid h1
    clear h1
    go_enter Try.func82, Try.ntmps82
    go_wp2_with fail
    refine (spec_Is H1.out _).mono ?_
    rintro e w1 ⟨rfl, rfl⟩
    go_wp2_with fail
    refine (spec_Measure _ _ H1.out).mono ?_
    rintro e w2 ⟨rfl, hb2⟩
    go_wp2_with fail
    go_ret2
    exact ⟨rfl, hb2⟩

end Go.Proofs.Ytpejbmfapdocaaa
