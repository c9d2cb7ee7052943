/- Contract of the program's IsWheel. No condition. -/
import Derived.Test.YtpejbmfapdocaaaWhB
namespace Go.Proofs.Ytpejbmfapdocaaa
open Go.RowKit

set_option maxHeartbeats 4000000 in
theorem impl_IsWheel (h l r lo ro rh rd rf cr : Int) (w : World) : Calls Try.prog 73 #[.agg #[.int .i64 h, .int .i64 l, .int .i64 r, .int .i64 lo, .int .i64 ro, .int .i64 rh, .int .i64 rd, .int .i64 rf, .int .i64 cr]] w fun e w' => e = .returned (.bool (wheelB h l r lo ro rh rd rf cr)) ∧ Below w.heap.size w w' := by
  rcases h1 : hubB h l r lo ro with _ | _
  · go_enter Try.func73, Try.ntmps73
    go_upto_region 1 with fail
    have bX : Below w.heap.size w (w.alloc (.cells #[Value.int .i64 h, Value.int .i64 l, Value.int .i64 r, Value.int .i64 lo, Value.int .i64 ro, Value.int .i64 rh, Value.int .i64 rd, Value.int .i64 rf, Value.int .i64 cr] 64)) := by (repeat (first | with_reducible exact Below.refl _ _ | with_reducible assumption | ((with_reducible refine Bw.set ?_ ?_); rotate_left; focus omega) | ((with_reducible refine Bw.al ?_ ?_); rotate_left; focus (first | omega | (simp; done) | (simp; omega))) | with_reducible refine Below.drew ?_ | with_reducible refine Bw.dr ?_ _))
    have c1 := cell_new w #[Value.int .i64 h, Value.int .i64 l, Value.int .i64 r, Value.int .i64 lo, Value.int .i64 ro, Value.int .i64 rh, Value.int .i64 rd, Value.int .i64 rf, Value.int .i64 cr] 64
    generalize w.alloc (.cells #[Value.int .i64 h, Value.int .i64 l, Value.int .i64 r, Value.int .i64 lo, Value.int .i64 ro, Value.int .i64 rh, Value.int .i64 rd, Value.int .i64 rf, Value.int .i64 cr] 64) = X at *
    have zX := bX.size
    have ca : ∀ (y : Aft X) (i : Nat), y.w.cell? ⟨w.heap.size, i, none⟩ = #[Value.int .i64 h, Value.int .i64 l, Value.int .i64 r, Value.int .i64 lo, Value.int .i64 ro, Value.int .i64 rh, Value.int .i64 rd, Value.int .i64 rf, Value.int .i64 cr][i]? := fun y => cell_kept y.hb (lt_cell c1 (by simp)) c1
    refine region_aft X (by kernel_rfl) (by kernel_rfl) (Below.refl _ _) ?_
    repeat (go_big_quiet_step (first | (go_at_call 29; exact aft_call (impl_IsHub_at h1 _))))
    refine wpQuiet_nil ?_
    rintro _ ⟨⟨w2, b2⟩, rfl⟩
    go_wp2_with fail
    go_ret
    exact ⟨by simp [wheelB, h1], bX.trans (b2.mono zX)⟩
  have hb := holes_bd (hubB_t h1).1
  rcases h2 : rimB rh rd rf with _ | _
  · go_enter Try.func73, Try.ntmps73
    go_upto_region 1 with fail
    have bX : Below w.heap.size w (w.alloc (.cells #[Value.int .i64 h, Value.int .i64 l, Value.int .i64 r, Value.int .i64 lo, Value.int .i64 ro, Value.int .i64 rh, Value.int .i64 rd, Value.int .i64 rf, Value.int .i64 cr] 64)) := by (repeat (first | with_reducible exact Below.refl _ _ | with_reducible assumption | ((with_reducible refine Bw.set ?_ ?_); rotate_left; focus omega) | ((with_reducible refine Bw.al ?_ ?_); rotate_left; focus (first | omega | (simp; done) | (simp; omega))) | with_reducible refine Below.drew ?_ | with_reducible refine Bw.dr ?_ _))
    have c1 := cell_new w #[Value.int .i64 h, Value.int .i64 l, Value.int .i64 r, Value.int .i64 lo, Value.int .i64 ro, Value.int .i64 rh, Value.int .i64 rd, Value.int .i64 rf, Value.int .i64 cr] 64
    generalize w.alloc (.cells #[Value.int .i64 h, Value.int .i64 l, Value.int .i64 r, Value.int .i64 lo, Value.int .i64 ro, Value.int .i64 rh, Value.int .i64 rd, Value.int .i64 rf, Value.int .i64 cr] 64) = X at *
    have zX := bX.size
    have ca : ∀ (y : Aft X) (i : Nat), y.w.cell? ⟨w.heap.size, i, none⟩ = #[Value.int .i64 h, Value.int .i64 l, Value.int .i64 r, Value.int .i64 lo, Value.int .i64 ro, Value.int .i64 rh, Value.int .i64 rd, Value.int .i64 rf, Value.int .i64 cr][i]? := fun y => cell_kept y.hb (lt_cell c1 (by simp)) c1
    refine region_aft X (by kernel_rfl) (by kernel_rfl) (Below.refl _ _) ?_
    repeat (go_big_quiet_step (first | (go_at_call 29; exact aft_call (impl_IsHub_at h1 _)) | (go_at_call 71; exact aft_call (impl_IsRim_at h2 _))))
    refine wpQuiet_nil ?_
    rintro _ ⟨⟨w2, b2⟩, rfl⟩
    go_wp2_with fail
    go_ret
    exact ⟨by simp [wheelB, h1, h2], bX.trans (b2.mono zX)⟩
  by_cases h3 : h = rh
  rotate_left
  · have e3 : (h == rh) = false := by simp [h3]
    have h3' : decide (h = rh) = false := by simp [h3]
    clear h3
    go_enter Try.func73, Try.ntmps73
    go_upto_region 1 with fail
    have bX : Below w.heap.size w (w.alloc (.cells #[Value.int .i64 h, Value.int .i64 l, Value.int .i64 r, Value.int .i64 lo, Value.int .i64 ro, Value.int .i64 rh, Value.int .i64 rd, Value.int .i64 rf, Value.int .i64 cr] 64)) := by (repeat (first | with_reducible exact Below.refl _ _ | with_reducible assumption | ((with_reducible refine Bw.set ?_ ?_); rotate_left; focus omega) | ((with_reducible refine Bw.al ?_ ?_); rotate_left; focus (first | omega | (simp; done) | (simp; omega))) | with_reducible refine Below.drew ?_ | with_reducible refine Bw.dr ?_ _))
    have c1 := cell_new w #[Value.int .i64 h, Value.int .i64 l, Value.int .i64 r, Value.int .i64 lo, Value.int .i64 ro, Value.int .i64 rh, Value.int .i64 rd, Value.int .i64 rf, Value.int .i64 cr] 64
    generalize w.alloc (.cells #[Value.int .i64 h, Value.int .i64 l, Value.int .i64 r, Value.int .i64 lo, Value.int .i64 ro, Value.int .i64 rh, Value.int .i64 rd, Value.int .i64 rf, Value.int .i64 cr] 64) = X at *
    have zX := bX.size
    have ca : ∀ (y : Aft X) (i : Nat), y.w.cell? ⟨w.heap.size, i, none⟩ = #[Value.int .i64 h, Value.int .i64 l, Value.int .i64 r, Value.int .i64 lo, Value.int .i64 ro, Value.int .i64 rh, Value.int .i64 rd, Value.int .i64 rf, Value.int .i64 cr][i]? := fun y => cell_kept y.hb (lt_cell c1 (by simp)) c1
    refine region_aft X (by kernel_rfl) (by kernel_rfl) (Below.refl _ _) ?_
    repeat (go_big_quiet_step (first | (go_at_call 29; exact aft_call (impl_IsHub_at h1 _)) | (go_at_call 71; exact aft_call (impl_IsRim_at h2 _))))
    refine wpQuiet_nil ?_
    rintro _ ⟨⟨w2, b2⟩, rfl⟩
    go_wp2_with fail
    go_ret
    exact ⟨by simp [wheelB, h1, h2, h3'], bX.trans (b2.mono zX)⟩
  subst h3
  rcases h4 : inB cr 0 (h / 4 - 1) with _ | _
  · go_enter Try.func73, Try.ntmps73
    go_upto_region 1 with fail
    have bX : Below w.heap.size w (w.alloc (.cells #[Value.int .i64 h, Value.int .i64 l, Value.int .i64 r, Value.int .i64 lo, Value.int .i64 ro, Value.int .i64 h, Value.int .i64 rd, Value.int .i64 rf, Value.int .i64 cr] 64)) := by (repeat (first | with_reducible exact Below.refl _ _ | with_reducible assumption | ((with_reducible refine Bw.set ?_ ?_); rotate_left; focus omega) | ((with_reducible refine Bw.al ?_ ?_); rotate_left; focus (first | omega | (simp; done) | (simp; omega))) | with_reducible refine Below.drew ?_ | with_reducible refine Bw.dr ?_ _))
    have c1 := cell_new w #[Value.int .i64 h, Value.int .i64 l, Value.int .i64 r, Value.int .i64 lo, Value.int .i64 ro, Value.int .i64 h, Value.int .i64 rd, Value.int .i64 rf, Value.int .i64 cr] 64
    generalize w.alloc (.cells #[Value.int .i64 h, Value.int .i64 l, Value.int .i64 r, Value.int .i64 lo, Value.int .i64 ro, Value.int .i64 h, Value.int .i64 rd, Value.int .i64 rf, Value.int .i64 cr] 64) = X at *
    have zX := bX.size
    have ca : ∀ (y : Aft X) (i : Nat), y.w.cell? ⟨w.heap.size, i, none⟩ = #[Value.int .i64 h, Value.int .i64 l, Value.int .i64 r, Value.int .i64 lo, Value.int .i64 ro, Value.int .i64 h, Value.int .i64 rd, Value.int .i64 rf, Value.int .i64 cr][i]? := fun y => cell_kept y.hb (lt_cell c1 (by simp)) c1
    refine region_aft X (by kernel_rfl) (by kernel_rfl) (Below.refl _ _) ?_
    repeat (go_big_quiet_step (first | (go_at_call 29; exact aft_call (impl_IsHub_at h1 _)) | (go_at_call 71; exact aft_call (impl_IsRim_at h2 _)) | (go_at_call 134; exact aft_pure (impl_mostCrosses _ (hubB_t h1).1 _)) | (go_at_call 119; exact aft_pure (impl_within_at h4 _))))
    refine wpQuiet_nil ?_
    rintro _ ⟨⟨w2, b2⟩, rfl⟩
    go_wp2_with fail
    go_ret
    exact ⟨by simp [wheelB, h1, h2, h4], bX.trans (b2.mono zX)⟩
  · go_enter Try.func73, Try.ntmps73
    go_upto_region 1 with fail
    have bX : Below w.heap.size w (w.alloc (.cells #[Value.int .i64 h, Value.int .i64 l, Value.int .i64 r, Value.int .i64 lo, Value.int .i64 ro, Value.int .i64 h, Value.int .i64 rd, Value.int .i64 rf, Value.int .i64 cr] 64)) := by (repeat (first | with_reducible exact Below.refl _ _ | with_reducible assumption | ((with_reducible refine Bw.set ?_ ?_); rotate_left; focus omega) | ((with_reducible refine Bw.al ?_ ?_); rotate_left; focus (first | omega | (simp; done) | (simp; omega))) | with_reducible refine Below.drew ?_ | with_reducible refine Bw.dr ?_ _))
    have c1 := cell_new w #[Value.int .i64 h, Value.int .i64 l, Value.int .i64 r, Value.int .i64 lo, Value.int .i64 ro, Value.int .i64 h, Value.int .i64 rd, Value.int .i64 rf, Value.int .i64 cr] 64
    generalize w.alloc (.cells #[Value.int .i64 h, Value.int .i64 l, Value.int .i64 r, Value.int .i64 lo, Value.int .i64 ro, Value.int .i64 h, Value.int .i64 rd, Value.int .i64 rf, Value.int .i64 cr] 64) = X at *
    have zX := bX.size
    have ca : ∀ (y : Aft X) (i : Nat), y.w.cell? ⟨w.heap.size, i, none⟩ = #[Value.int .i64 h, Value.int .i64 l, Value.int .i64 r, Value.int .i64 lo, Value.int .i64 ro, Value.int .i64 h, Value.int .i64 rd, Value.int .i64 rf, Value.int .i64 cr][i]? := fun y => cell_kept y.hb (lt_cell c1 (by simp)) c1
    refine region_aft X (by kernel_rfl) (by kernel_rfl) (Below.refl _ _) ?_
    repeat (go_big_quiet_step (first | (go_at_call 29; exact aft_call (impl_IsHub_at h1 _)) | (go_at_call 71; exact aft_call (impl_IsRim_at h2 _)) | (go_at_call 134; exact aft_pure (impl_mostCrosses _ (hubB_t h1).1 _)) | (go_at_call 119; exact aft_pure (impl_within_at h4 _))))
    refine wpQuiet_nil ?_
    rintro _ ⟨⟨w2, b2⟩, rfl⟩
    go_wp2_with fail
    go_ret
    exact ⟨by simp [wheelB, h1, h2, h4], bX.trans (b2.mono zX)⟩

end Go.Proofs.Ytpejbmfapdocaaa
