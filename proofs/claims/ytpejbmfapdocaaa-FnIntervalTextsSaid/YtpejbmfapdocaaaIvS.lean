/- Texts of intervals. Conditions: those that each theorem names. -/
import Derived.Test.YtpejbmfapdocaaaNumR
import Derived.Test.YtpejbmfapdocaaaIvA
namespace Go.Proofs.Ytpejbmfapdocaaa
open Go.RowKit

def dots : ByteArray := { data := #[46, 46] }
/-- The text of an interval. -/
def ivB (a b : Int) : ByteArray := if a = b then numB a else numB a ++ dots ++ numB b
theorem ivB_same (a : Int) : ivB a a = numB a := by rw [ivB, if_pos rfl]
theorem ivB_diff {a b : Int} (h : ¬ a = b) : ivB a b = numB a ++ dots ++ numB b := by rw [ivB, if_neg h]
/-- The text of an interval, or code 1. -/
def ivF (a b : Int) : ByteArray × Int := if isIv a b then (ivB a b, 0) else (ByteArray.empty, 1)
theorem ivF_n {a b : Int} (h : isIv a b = false) : ivF a b = (ByteArray.empty, 1) := by rw [ivF, h]; rfl
theorem ivF_y {a b : Int} (h : isIv a b = true) : ivF a b = (ivB a b, 0) := by rw [ivF, h]; rfl

set_option maxHeartbeats 2000000 in
theorem impl_ivText (a b : Int) (w : World) (k : isIv a b = true) : Calls Try.prog 127 #[.agg #[.int .i64 a, .int .i64 b]] w fun e w' => e = .returned (.string (ivB a b)) ∧ Below w.heap.size w w' := by
  obtain ⟨k1, k2, k3⟩ := isIv_t k
  clear k
  by_cases hab : a = b
  · subst hab
    rw [ivB_same]
    go_enter Try.func127, Try.ntmps127
    go_wp2_with fail
    (with_reducible refine (impl_decimal a _ (by omega) (by omega)).mono ?_)
    rintro e w1 ⟨rfl, hb1⟩
    obtain ⟨c1, f1, zz, bb⟩ := kept1 hb1
    clear hb1
    go_wp2_with fail
    go_ret
    exact ⟨rfl, by (repeat (first | with_reducible exact Below.refl _ _ | with_reducible assumption | ((with_reducible refine Bw.set ?_ ?_); rotate_left; focus omega) | ((with_reducible refine Bw.al ?_ ?_); rotate_left; focus (first | omega | (simp; done) | (simp; omega))) | with_reducible refine Below.drew ?_ | with_reducible refine Bw.dr ?_ _))⟩
  · have e1 : (a == b) = false := by simp [hab]
    have e2 : decide (a = b) = false := by simp [hab]
    have s1 := numB_size (n := a) (by omega)
    have s2 := numB_size (n := b) (by omega)
    have HR := Lib.hid (show ivB a b = numB a ++ { data := #[46, 46] } ++ numB b from ivB_diff hab)
    have hc1 : ¬ 9223372036854775807 < (numB a).size + 2 := by omega
    have hc2 : ¬ 9223372036854775807 < (numB a).size + 2 + (numB b).size := by omega
    have hc3 : ¬ 9223372036854775807 < (numB a ++ { data := #[46, 46] }).size + (numB b).size := by
      rw [ByteArray.size_append]
      exact hc2
    clear hab
    go_enter Try.func127, Try.ntmps127
    go_upto_region 3 with fail
    have bX : Below w.heap.size w (w.alloc (.cells #[Value.int .i64 a, Value.int .i64 b] 40)) := by (repeat (first | with_reducible exact Below.refl _ _ | with_reducible assumption | ((with_reducible refine Bw.set ?_ ?_); rotate_left; focus omega) | ((with_reducible refine Bw.al ?_ ?_); rotate_left; focus (first | omega | (simp; done) | (simp; omega))) | with_reducible refine Below.drew ?_ | with_reducible refine Bw.dr ?_ _))
    have c1 := cell_new w #[Value.int .i64 a, Value.int .i64 b] 40
    generalize w.alloc (.cells #[Value.int .i64 a, Value.int .i64 b] 40) = X at *
    have zX := bX.size
    have ca : ∀ (y : Aft X) (i : Nat), y.w.cell? ⟨w.heap.size, i, none⟩ = #[Value.int .i64 a, Value.int .i64 b][i]? := fun y => cell_kept y.hb (lt_cell c1 (by simp)) c1
    refine region_aft X (by kernel_rfl) (by kernel_rfl) (Below.refl _ _) ?_
    repeat (go_big_quiet_step ((go_at_call 151; exact aft_call (impl_decimal _ _ (by omega) (by omega)))))
    refine wpQuiet_nil ?_
    rintro _ ⟨⟨w2, b2⟩, rfl⟩
    go_wp2_with fail
    go_ret
    exact ⟨by rw [HR.out]; rfl, bX.trans (b2.mono zX)⟩
set_option maxHeartbeats 2000000 in
theorem spec_ivText (a b : Int) (w : World) (k : isIv a b = true) : Calls Try.prog 126 #[.agg #[.int .i64 a, .int .i64 b]] w fun e w' => e = .returned (.string (ivB a b)) ∧ Below w.heap.size w w' := by
  obtain ⟨k1, k2, k3⟩ := isIv_t k
  clear k
  by_cases hab : a = b
  · subst hab
    rw [ivB_same]
    go_enter Try.func126, Try.ntmps126
    go_wp2_with fail
    (with_reducible refine (spec_Number a _ (by omega) (by omega)).mono ?_)
    rintro e w1 ⟨rfl, hb1⟩
    obtain ⟨c1, f1, zz, bb⟩ := kept1 hb1
    clear hb1
    go_wp2_with fail
    go_ret
    exact ⟨rfl, by (repeat (first | with_reducible exact Below.refl _ _ | with_reducible assumption | ((with_reducible refine Bw.set ?_ ?_); rotate_left; focus omega) | ((with_reducible refine Bw.al ?_ ?_); rotate_left; focus (first | omega | (simp; done) | (simp; omega))) | with_reducible refine Below.drew ?_ | with_reducible refine Bw.dr ?_ _))⟩
  · have e1 : (a == b) = false := by simp [hab]
    have e2 : decide (a = b) = false := by simp [hab]
    have s1 := numB_size (n := a) (by omega)
    have s2 := numB_size (n := b) (by omega)
    have HR := Lib.hid (show ivB a b = numB a ++ { data := #[46, 46] } ++ numB b from ivB_diff hab)
    have hc1 : ¬ 9223372036854775807 < (numB a).size + 2 := by omega
    have hc2 : ¬ 9223372036854775807 < (numB a).size + 2 + (numB b).size := by omega
    have hc3 : ¬ 9223372036854775807 < (numB a ++ { data := #[46, 46] }).size + (numB b).size := by
      rw [ByteArray.size_append]
      exact hc2
    clear hab
    go_enter Try.func126, Try.ntmps126
    go_upto_region 3 with fail
    have bX : Below w.heap.size w (w.alloc (.cells #[Value.int .i64 a, Value.int .i64 b] 40)) := by (repeat (first | with_reducible exact Below.refl _ _ | with_reducible assumption | ((with_reducible refine Bw.set ?_ ?_); rotate_left; focus omega) | ((with_reducible refine Bw.al ?_ ?_); rotate_left; focus (first | omega | (simp; done) | (simp; omega))) | with_reducible refine Below.drew ?_ | with_reducible refine Bw.dr ?_ _))
    have c1 := cell_new w #[Value.int .i64 a, Value.int .i64 b] 40
    generalize w.alloc (.cells #[Value.int .i64 a, Value.int .i64 b] 40) = X at *
    have zX := bX.size
    have ca : ∀ (y : Aft X) (i : Nat), y.w.cell? ⟨w.heap.size, i, none⟩ = #[Value.int .i64 a, Value.int .i64 b][i]? := fun y => cell_kept y.hb (lt_cell c1 (by simp)) c1
    refine region_aft X (by kernel_rfl) (by kernel_rfl) (Below.refl _ _) ?_
    repeat (go_big_quiet_step ((go_at_call 154; exact aft_call (spec_Number _ _ (by omega) (by omega)))))
    refine wpQuiet_nil ?_
    rintro _ ⟨⟨w2, b2⟩, rfl⟩
    go_wp2_with fail
    go_ret
    exact ⟨by rw [HR.out]; rfl, bX.trans (b2.mono zX)⟩
set_option maxHeartbeats 2000000 in
theorem impl_IntervalText (a b : Int) (w : World) : Calls Try.prog 95 #[.agg #[.int .i64 a, .int .i64 b]] w fun e w' => e = .returned (.tuple #[.string (ivF a b).1, .int .i64 (ivF a b).2]) ∧ Below w.heap.size w w' := by
  have HI := Lib.hid (impl_IsInterval a b)
  rcases h : isIv a b with _ | _
  · rw [ivF_n h]
    rw [h] at HI
    clear h
    go_enter Try.func95, Try.ntmps95
    go_wp2_with fail
    (with_reducible refine (HI.out _).mono ?_)
    rintro e w1 ⟨rfl, hb1⟩
    obtain ⟨c1, f1, zz, bb⟩ := kept1 hb1
    clear hb1
    go_wp2_with fail
    go_ret2
    exact ⟨rfl, by (repeat (first | with_reducible exact Below.refl _ _ | with_reducible assumption | ((with_reducible refine Bw.set ?_ ?_); rotate_left; focus omega) | ((with_reducible refine Bw.al ?_ ?_); rotate_left; focus (first | omega | (simp; done) | (simp; omega))) | with_reducible refine Below.drew ?_ | with_reducible refine Bw.dr ?_ _))⟩
  · rw [ivF_y h]
    rw [h] at HI
    have H := Lib.hid h
    clear h
    go_enter Try.func95, Try.ntmps95
    go_wp2_with fail
    (with_reducible refine (HI.out _).mono ?_)
    rintro e w1 ⟨rfl, hb1⟩
    obtain ⟨c1, f1, zz, bb⟩ := kept1 hb1
    clear hb1
    go_wp2_with fail
    (with_reducible refine (impl_ivText a b _ H.out).mono ?_)
    rintro e w2 ⟨rfl, hb2⟩
    replace bb : Below w.heap.size w w2 := Below.trans (by (repeat (first | with_reducible exact Below.refl _ _ | with_reducible assumption | ((with_reducible refine Bw.set ?_ ?_); rotate_left; focus omega) | ((with_reducible refine Bw.al ?_ ?_); rotate_left; focus (first | omega | (simp; done) | (simp; omega))) | with_reducible refine Below.drew ?_ | with_reducible refine Bw.dr ?_ _))) (hb2.mono (by first | omega | (simp; done) | (simp; omega)))
    clear hb2
    go_wp2_with fail
    go_ret2
    exact ⟨rfl, by (repeat (first | with_reducible exact Below.refl _ _ | with_reducible assumption | ((with_reducible refine Bw.set ?_ ?_); rotate_left; focus omega) | ((with_reducible refine Bw.al ?_ ?_); rotate_left; focus (first | omega | (simp; done) | (simp; omega))) | with_reducible refine Below.drew ?_ | with_reducible refine Bw.dr ?_ _))⟩
set_option maxHeartbeats 2000000 in
theorem spec_IntervalText (a b : Int) (w : World) : Calls Try.prog 96 #[.agg #[.int .i64 a, .int .i64 b]] w fun e w' => e = .returned (.tuple #[.string (ivF a b).1, .int .i64 (ivF a b).2]) ∧ Below w.heap.size w w' := by
  have HI := Lib.hid (spec_IsInterval a b)
  rcases h : isIv a b with _ | _
  · rw [ivF_n h]
    rw [h] at HI
    clear h
    go_enter Try.func96, Try.ntmps96
    go_wp2_with fail
    (with_reducible refine (HI.out _).mono ?_)
    rintro e w1 ⟨rfl, hb1⟩
    obtain ⟨c1, f1, zz, bb⟩ := kept1 hb1
    clear hb1
    go_wp2_with fail
    go_ret2
    exact ⟨rfl, by (repeat (first | with_reducible exact Below.refl _ _ | with_reducible assumption | ((with_reducible refine Bw.set ?_ ?_); rotate_left; focus omega) | ((with_reducible refine Bw.al ?_ ?_); rotate_left; focus (first | omega | (simp; done) | (simp; omega))) | with_reducible refine Below.drew ?_ | with_reducible refine Bw.dr ?_ _))⟩
  · rw [ivF_y h]
    rw [h] at HI
    have H := Lib.hid h
    clear h
    go_enter Try.func96, Try.ntmps96
    go_wp2_with fail
    (with_reducible refine (HI.out _).mono ?_)
    rintro e w1 ⟨rfl, hb1⟩
    obtain ⟨c1, f1, zz, bb⟩ := kept1 hb1
    clear hb1
    go_wp2_with fail
    (with_reducible refine (spec_ivText a b _ H.out).mono ?_)
    rintro e w2 ⟨rfl, hb2⟩
    replace bb : Below w.heap.size w w2 := Below.trans (by (repeat (first | with_reducible exact Below.refl _ _ | with_reducible assumption | ((with_reducible refine Bw.set ?_ ?_); rotate_left; focus omega) | ((with_reducible refine Bw.al ?_ ?_); rotate_left; focus (first | omega | (simp; done) | (simp; omega))) | with_reducible refine Below.drew ?_ | with_reducible refine Bw.dr ?_ _))) (hb2.mono (by first | omega | (simp; done) | (simp; omega)))
    clear hb2
    go_wp2_with fail
    go_ret2
    exact ⟨rfl, by (repeat (first | with_reducible exact Below.refl _ _ | with_reducible assumption | ((with_reducible refine Bw.set ?_ ?_); rotate_left; focus omega) | ((with_reducible refine Bw.al ?_ ?_); rotate_left; focus (first | omega | (simp; done) | (simp; omega))) | with_reducible refine Below.drew ?_ | with_reducible refine Bw.dr ?_ _))⟩

end Go.Proofs.Ytpejbmfapdocaaa
