/- Texts of hubs. Conditions: those that each theorem names. -/
import Derived.Test.YtpejbmfapdocaaaNumR
import Derived.Test.YtpejbmfapdocaaaWhA
import Derived.Test.YtpejbmfapdocaaaTail
import Derived.Test.YtpejbmfapdocaaaSt
import Derived.Test.YtpejbmfapdocaaaWhB
namespace Go.Proofs.Ytpejbmfapdocaaa
open Go.RowKit

def slash : ByteArray := { data := #[47] }
/-- The parts of a hub's text. -/
def hbL (h l r lo ro : Int) : List ByteArray := [decI h, mesB l, mesB r, mesB lo, mesB ro]
def hbB (h l r lo ro : Int) : ByteArray := joinB (hbL h l r lo ro) slash 5
/-- The text of a hub, or code 1. -/
def hbF (h l r lo ro : Int) : ByteArray × Int := if hubB h l r lo ro then (hbB h l r lo ro, 0) else (ByteArray.empty, 1)
theorem hbF_n {h l r lo ro : Int} (k : hubB h l r lo ro = false) : hbF h l r lo ro = (ByteArray.empty, 1) := by rw [hbF, k]; rfl
theorem hbF_y {h l r lo ro : Int} (k : hubB h l r lo ro = true) : hbF h l r lo ro = (hbB h l r lo ro, 0) := by rw [hbF, k]; rfl
structure HbV (h l r lo ro : Int) : Prop where
  h0 : 0 ≤ h ∧ h ≤ 1000
  v1 : isVal l = true
  v2 : isVal r = true
  v3 : isVal lo = true
  v4 : isVal ro = true
theorem hbV {h l r lo ro : Int} (k : hubB h l r lo ro = true) : HbV h l r lo ro := by
  obtain ⟨k1, k2, k3, k4, k5⟩ := hubB_t k
  have h0 := holes_bd k1
  exact ⟨by omega, inB_mk (by omega), inB_mk (by omega), inB_mk (by omega), inB_mk (by omega)⟩
theorem hbL_size {h l r lo ro : Int} (k : HbV h l r lo ro) : ∀ i, (sAt (hbL h l r lo ro) i).size ≤ 20
  | 0 => by show (decI h).size ≤ 20; have := decI_size13 (n := h) (by have := k.h0; omega); omega
  | 1 => by show (mesB l).size ≤ 20; have := mesB_bd k.v1; omega
  | 2 => by show (mesB r).size ≤ 20; have := mesB_bd k.v2; omega
  | 3 => by show (mesB lo).size ≤ 20; have := mesB_bd k.v3; omega
  | 4 => by show (mesB ro).size ≤ 20; have := mesB_bd k.v4; omega
  | _ + 5 => by show ByteArray.empty.size ≤ 20; decide

set_option maxHeartbeats 4000000 in
theorem impl_hubText (h l r lo ro : Int) (w : World) (k : hubB h l r lo ro = true) : Calls Try.prog 112 #[.agg #[.int .i64 h, .int .i64 l, .int .i64 r, .int .i64 lo, .int .i64 ro]] w fun e w' => e = .returned (.string (hbB h l r lo ro)) ∧ Below w.heap.size w w' := by
  obtain ⟨⟨k1, k2⟩, v1, v2, v3, v4⟩ := hbV k
  have hs := hbL_size (hbV k)
  have HJ := Lib.hid (show ∀ (A : Option Addr) (c : Nat) (w : World), Rd w w.heap.size A (sv (hbL h l r lo ro)) → Calls Try.prog 147 #[.slice A 5 c, .string { data := #[47] }] w fun e w' => e = .returned (.string (hbB h l r lo ro)) ∧ w = w' from
    fun A c w hr => impl_join A c (hbL h l r lo ro) slash w (by decide) (by simp [hbL]) hs hr)
  have V1 := Lib.hid v1
  have V2 := Lib.hid v2
  have V3 := Lib.hid v3
  have V4 := Lib.hid v4
  clear k hs v1 v2 v3 v4
  go_enter Try.func112, Try.ntmps112
  go_upto_region 1 with fail
  have bX : Below w.heap.size w (w.alloc (.cells #[Value.int .i64 h, Value.int .i64 l, Value.int .i64 r, Value.int .i64 lo, Value.int .i64 ro] 33)) := by (repeat (first | with_reducible exact Below.refl _ _ | with_reducible assumption | ((with_reducible refine Bw.set ?_ ?_); rotate_left; focus omega) | ((with_reducible refine Bw.al ?_ ?_); rotate_left; focus (first | omega | (simp; done) | (simp; omega))) | with_reducible refine Below.drew ?_ | with_reducible refine Bw.dr ?_ _))
  have c1 := cell_new w #[Value.int .i64 h, Value.int .i64 l, Value.int .i64 r, Value.int .i64 lo, Value.int .i64 ro] 33
  generalize w.alloc (.cells #[Value.int .i64 h, Value.int .i64 l, Value.int .i64 r, Value.int .i64 lo, Value.int .i64 ro] 33) = X at *
  have zX := bX.size
  have ca : ∀ (y : Aft X) (i : Nat), y.w.cell? ⟨w.heap.size, i, none⟩ = #[Value.int .i64 h, Value.int .i64 l, Value.int .i64 r, Value.int .i64 lo, Value.int .i64 ro][i]? := fun y => cell_kept y.hb (lt_cell c1 (by simp)) c1
  refine region_aft_tail 15 X (by kernel_rfl) (by kernel_rfl) (Below.refl _ _) ?_
  simp only [List.take_succ_cons, List.take_zero, List.drop_succ_cons, List.drop_zero]
  repeat (go_big_quiet_step (first | (go_at_call 151; exact aft_call (impl_decimal_p _ _ (by omega) (by omega))) | (go_at_call 143; exact aft_call (impl_measure _ _ (by first | exact V1.out | exact V2.out | exact V3.out | exact V4.out)))))
  refine wpQuiet_nil ?_
  rintro w2 ⟨⟨_, b2⟩, rfl⟩
  go_wp2_with fail
  have hr : Rd (w2.alloc (.cells (sv (hbL h l r lo ro)).toArray 9)) (w2.heap.size + 1) (some ⟨w2.heap.size, 0, none⟩) (sv (hbL h l r lo ro)) := Rd.of_cells (cell_new w2 _ _) (by omega)
  refine (HJ.out _ _ _ ?_).mono ?_
  · simp only [World.size_alloc]; exact hr
  rintro e w3 ⟨rfl, rfl⟩
  go_wp2_with fail
  go_ret
  exact ⟨rfl, bX.trans ((b2.alloc (by have := b2.size; omega) _).mono zX)⟩
set_option maxHeartbeats 4000000 in
theorem spec_hubText (h l r lo ro : Int) (w : World) (k : hubB h l r lo ro = true) : Calls Try.prog 114 #[.agg #[.int .i64 h, .int .i64 l, .int .i64 r, .int .i64 lo, .int .i64 ro]] w fun e w' => e = .returned (.string (hbB h l r lo ro)) ∧ Below w.heap.size w w' := by
  obtain ⟨⟨k1, k2⟩, v1, v2, v3, v4⟩ := hbV k
  have hs := hbL_size (hbV k)
  have HJ := Lib.hid (show ∀ (A : Option Addr) (c : Nat) (w : World), Rd w w.heap.size A (sv (hbL h l r lo ro)) → Calls Try.prog 149 #[.slice A 5 c, .string { data := #[47] }] w fun e w' => e = .returned (.string (hbB h l r lo ro)) ∧ w = w' from
    fun A c w hr => spec_Words A c (hbL h l r lo ro) slash w (by decide) (by simp [hbL]) hs hr)
  have V1 := Lib.hid v1
  have V2 := Lib.hid v2
  have V3 := Lib.hid v3
  have V4 := Lib.hid v4
  clear k hs v1 v2 v3 v4
  go_enter Try.func114, Try.ntmps114
  go_upto_region 1 with fail
  have bX : Below w.heap.size w (w.alloc (.cells #[Value.int .i64 h, Value.int .i64 l, Value.int .i64 r, Value.int .i64 lo, Value.int .i64 ro] 33)) := by (repeat (first | with_reducible exact Below.refl _ _ | with_reducible assumption | ((with_reducible refine Bw.set ?_ ?_); rotate_left; focus omega) | ((with_reducible refine Bw.al ?_ ?_); rotate_left; focus (first | omega | (simp; done) | (simp; omega))) | with_reducible refine Below.drew ?_ | with_reducible refine Bw.dr ?_ _))
  have c1 := cell_new w #[Value.int .i64 h, Value.int .i64 l, Value.int .i64 r, Value.int .i64 lo, Value.int .i64 ro] 33
  generalize w.alloc (.cells #[Value.int .i64 h, Value.int .i64 l, Value.int .i64 r, Value.int .i64 lo, Value.int .i64 ro] 33) = X at *
  have zX := bX.size
  have ca : ∀ (y : Aft X) (i : Nat), y.w.cell? ⟨w.heap.size, i, none⟩ = #[Value.int .i64 h, Value.int .i64 l, Value.int .i64 r, Value.int .i64 lo, Value.int .i64 ro][i]? := fun y => cell_kept y.hb (lt_cell c1 (by simp)) c1
  refine region_aft_tail 15 X (by kernel_rfl) (by kernel_rfl) (Below.refl _ _) ?_
  simp only [List.take_succ_cons, List.take_zero, List.drop_succ_cons, List.drop_zero]
  repeat (go_big_quiet_step (first | (go_at_call 153; exact aft_call (spec_Dec _ _ (by omega) (by omega))) | (go_at_call 145; exact aft_call (spec_Measure _ _ (by first | exact V1.out | exact V2.out | exact V3.out | exact V4.out)))))
  refine wpQuiet_nil ?_
  rintro w2 ⟨⟨_, b2⟩, rfl⟩
  go_wp2_with fail
  have hr : Rd (w2.alloc (.cells (sv (hbL h l r lo ro)).toArray 9)) (w2.heap.size + 1) (some ⟨w2.heap.size, 0, none⟩) (sv (hbL h l r lo ro)) := Rd.of_cells (cell_new w2 _ _) (by omega)
  refine (HJ.out _ _ _ ?_).mono ?_
  · simp only [World.size_alloc]; exact hr
  rintro e w3 ⟨rfl, rfl⟩
  go_wp2_with fail
  go_ret
  exact ⟨rfl, bX.trans ((b2.alloc (by have := b2.size; omega) _).mono zX)⟩
set_option maxHeartbeats 2000000 in
theorem impl_HubText (h l r lo ro : Int) (w : World) : Calls Try.prog 24 #[.agg #[.int .i64 h, .int .i64 l, .int .i64 r, .int .i64 lo, .int .i64 ro]] w fun e w' => e = .returned (.tuple #[.string (hbF h l r lo ro).1, .int .i64 (hbF h l r lo ro).2]) ∧ Below w.heap.size w w' := by
  have HI := Lib.hid (impl_IsHub h l r lo ro)
  rcases k : hubB h l r lo ro with _ | _
  · rw [hbF_n k]
    rw [k] at HI
    clear k
    go_enter Try.func24, Try.ntmps24
    go_wp2_with fail
    (with_reducible refine (HI.out _).mono ?_)
    rintro e w1 ⟨rfl, hb1⟩
    obtain ⟨c1, f1, zz, bb⟩ := kept1 hb1
    clear hb1
    go_wp2_with fail
    go_ret2
    exact ⟨rfl, by (repeat (first | with_reducible exact Below.refl _ _ | with_reducible assumption | ((with_reducible refine Bw.set ?_ ?_); rotate_left; focus omega) | ((with_reducible refine Bw.al ?_ ?_); rotate_left; focus (first | omega | (simp; done) | (simp; omega))) | with_reducible refine Below.drew ?_ | with_reducible refine Bw.dr ?_ _))⟩
  · rw [hbF_y k]
    rw [k] at HI
    have H := Lib.hid k
    clear k
    go_enter Try.func24, Try.ntmps24
    go_wp2_with fail
    (with_reducible refine (HI.out _).mono ?_)
    rintro e w1 ⟨rfl, hb1⟩
    obtain ⟨c1, f1, zz, bb⟩ := kept1 hb1
    clear hb1
    go_wp2_with fail
    (with_reducible refine (impl_hubText h l r lo ro _ H.out).mono ?_)
    rintro e w2 ⟨rfl, hb2⟩
    replace bb : Below w.heap.size w w2 := Below.trans (by (repeat (first | with_reducible exact Below.refl _ _ | with_reducible assumption | ((with_reducible refine Bw.set ?_ ?_); rotate_left; focus omega) | ((with_reducible refine Bw.al ?_ ?_); rotate_left; focus (first | omega | (simp; done) | (simp; omega))) | with_reducible refine Below.drew ?_ | with_reducible refine Bw.dr ?_ _))) (hb2.mono (by first | omega | (simp; done) | (simp; omega)))
    clear hb2
    go_wp2_with fail
    go_ret2
    exact ⟨rfl, by (repeat (first | with_reducible exact Below.refl _ _ | with_reducible assumption | ((with_reducible refine Bw.set ?_ ?_); rotate_left; focus omega) | ((with_reducible refine Bw.al ?_ ?_); rotate_left; focus (first | omega | (simp; done) | (simp; omega))) | with_reducible refine Below.drew ?_ | with_reducible refine Bw.dr ?_ _))⟩
set_option maxHeartbeats 2000000 in
theorem spec_HubText (h l r lo ro : Int) (w : World) : Calls Try.prog 25 #[.agg #[.int .i64 h, .int .i64 l, .int .i64 r, .int .i64 lo, .int .i64 ro]] w fun e w' => e = .returned (.tuple #[.string (hbF h l r lo ro).1, .int .i64 (hbF h l r lo ro).2]) ∧ Below w.heap.size w w' := by
  have HI := Lib.hid (spec_IsHub h l r lo ro)
  rcases k : hubB h l r lo ro with _ | _
  · rw [hbF_n k]
    rw [k] at HI
    clear k
    go_enter Try.func25, Try.ntmps25
    go_wp2_with fail
    (with_reducible refine (HI.out _).mono ?_)
    rintro e w1 ⟨rfl, hb1⟩
    obtain ⟨c1, f1, zz, bb⟩ := kept1 hb1
    clear hb1
    go_wp2_with fail
    go_ret2
    exact ⟨rfl, by (repeat (first | with_reducible exact Below.refl _ _ | with_reducible assumption | ((with_reducible refine Bw.set ?_ ?_); rotate_left; focus omega) | ((with_reducible refine Bw.al ?_ ?_); rotate_left; focus (first | omega | (simp; done) | (simp; omega))) | with_reducible refine Below.drew ?_ | with_reducible refine Bw.dr ?_ _))⟩
  · rw [hbF_y k]
    rw [k] at HI
    have H := Lib.hid k
    clear k
    go_enter Try.func25, Try.ntmps25
    go_wp2_with fail
    (with_reducible refine (HI.out _).mono ?_)
    rintro e w1 ⟨rfl, hb1⟩
    obtain ⟨c1, f1, zz, bb⟩ := kept1 hb1
    clear hb1
    go_wp2_with fail
    (with_reducible refine (spec_hubText h l r lo ro _ H.out).mono ?_)
    rintro e w2 ⟨rfl, hb2⟩
    replace bb : Below w.heap.size w w2 := Below.trans (by (repeat (first | with_reducible exact Below.refl _ _ | with_reducible assumption | ((with_reducible refine Bw.set ?_ ?_); rotate_left; focus omega) | ((with_reducible refine Bw.al ?_ ?_); rotate_left; focus (first | omega | (simp; done) | (simp; omega))) | with_reducible refine Below.drew ?_ | with_reducible refine Bw.dr ?_ _))) (hb2.mono (by first | omega | (simp; done) | (simp; omega)))
    clear hb2
    go_wp2_with fail
    go_ret2
    exact ⟨rfl, by (repeat (first | with_reducible exact Below.refl _ _ | with_reducible assumption | ((with_reducible refine Bw.set ?_ ?_); rotate_left; focus omega) | ((with_reducible refine Bw.al ?_ ?_); rotate_left; focus (first | omega | (simp; done) | (simp; omega))) | with_reducible refine Below.drew ?_ | with_reducible refine Bw.dr ?_ _))⟩

end Go.Proofs.Ytpejbmfapdocaaa
