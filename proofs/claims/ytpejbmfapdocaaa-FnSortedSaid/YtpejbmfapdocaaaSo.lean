/- SortNumbers of the program. Condition: the slice reads as a list. -/
import Derived.Test.YtpejbmfapdocaaaSrt
import Derived.Laws.AppendOwnNone
namespace Go.Proofs.Ytpejbmfapdocaaa
open Go.RowKit

def CopyPost (w : World) (xs : List Int) (e : Ending) (w' : World) : Prop :=
  ∃ g cap, e = .returned (.slice (some ⟨g, 0, none⟩) xs.length cap) ∧ w'.ownsRow w.heap.size 2 1 (.slice (some ⟨g, 0, none⟩) xs.length cap) xs.length (iv xs) ∧ Below w.heap.size w w'
/-- A slice of numbers that the call made and that can be written, and a code. -/
def WrInts2 (w : World) (xs : List Int) (c : Int) (e : Ending) (w' : World) : Prop :=
  ∃ A k, e = .returned (.tuple #[.slice A xs.length k, .int .i64 c]) ∧ Wr w' A (iv xs) ∧ (∀ b, A.map Addr.block = some b → w.heap.size ≤ b) ∧ Below w.heap.size w w'
def WrInts (w : World) (xs : List Int) (e : Ending) (w' : World) : Prop :=
  ∃ g k, e = .returned (.slice (some ⟨g, 0, none⟩) xs.length k) ∧ Wr w' (some ⟨g, 0, none⟩) (iv xs) ∧ w.heap.size ≤ g ∧ Below w.heap.size w w'
theorem own_wr {w : World} {base n g cap : Nat} {e : TypeId} {us : List Value} (h : w.ownsRow base e 1 (.slice (some ⟨g, 0, none⟩) n cap) n us) : Wr w (some ⟨g, 0, none⟩) us ∧ base ≤ g := by
  obtain ⟨A, c, hv, hw, _, hb⟩ := own_write h
  injection hv with hA
  subst hA
  exact ⟨hw, hb g rfl⟩
theorem own_some {w : World} {base n : Nat} {e : TypeId} {v : Value} {us : List Value} (h : w.ownsRow base e 1 v n us) (hv : v ≠ .slice none 0 0) : ∃ g cap, v = .slice (some ⟨g, 0, none⟩) n cap := by
  rcases h.2 with ⟨h1, _⟩ | ⟨g, cap, cur, h1, _⟩
  · exact absurd h1 hv
  · exact ⟨g, cap, h1⟩
theorem own_empty (w : World) (T : TypeId) : (w.alloc (.cells #[] T)).ownsRow w.heap.size T 1 (.slice (some ⟨w.heap.size, 0, none⟩) 0 0) 0 [] :=
  ⟨rfl, .inr ⟨w.heap.size, 0, _, rfl, Nat.le_refl _, heap_alloc_new _ _, Nat.zero_le _, by unfold maxLen; omega, rfl, rfl⟩⟩

theorem run_append_nil0 {w : World} {base n c : Nat} {v : Value} {us : List Value} (i : TypeInfo) (hi : Try.prog.info? 2 = some i) (ty : TypeId) (h : w.ownsRow base 2 1 v n us) :
    (Builtin.append_ #[24, 24] ty #[v, .slice none 0 c]).run Try.prog w = .ok v w := by
  rcases h.2 with ⟨rfl, rfl⟩ | ⟨g, cap, cur, rfl, _, hg, hnc, hcm, hcs, ht⟩
  · simp [Builtin.append_, run_underlying Try.underlying24, sizeOf, typeInfo, hi, Builtin.lenOf, Builtin.firstCells]
  · simp [Builtin.append_, run_underlying Try.underlying24, sizeOf, typeInfo, hi, Builtin.lenOf, Builtin.firstCells, hnc, storeCells]
theorem wpList_append_nil0 {w : World} {ops : Array Oper} {rest : List Oper} {o : Oper} {a : Act} {Q : Exit → Act → World → Prop} (hgd : o.guard = none) (s x : Operand)
    (ho : o.op = .call { callee := .builtin .append, args := #[s, x], argTypes := #[24, 24] }) (i : TypeInfo) (hi : Try.prog.info? 2 = some i)
    (base n c : Nat) (v : Value) (us : List Value) (hs : a.eval s = v) (hx : a.eval x = .slice none 0 c) (h : w.ownsRow base 2 1 v n us)
    (hK : wpList Try.prog ops Q rest (a.put o.dst v) w) : wpList Try.prog ops Q (o :: rest) a w := by
  refine wpList_plain hgd fun K hK' => ?_
  have hr := run_append_nil0 (c := c) i hi o.type h
  unfold Oper.wp execOp
  simp only [ho, resolve, invoke, builtin, Sem.run_bind, Sem.run_pure, Result.andThen_ok, List.map_toArray, List.map_cons, List.map_nil, hs, hx, hr]
  exact hK' _ _ hK
set_option maxRecDepth 100000 in
set_option maxHeartbeats 1000000 in
theorem impl_copyList (A : Option Addr) (c : Nat) (xs : List Int) (w : World) (hl : xs.length ≤ 1048576) (hr : Rd w w.heap.size A (iv xs)) : Calls Try.prog 155 #[.slice A xs.length c] w (CopyPost w xs) := by
  obtain ⟨i0, hi0, hz0, hz1, hz2⟩ := info_parts Try.infoS
  rcases A with _ | ad
  · have hx : xs = [] := by
      rcases xs with _ | ⟨x, xs⟩
      · rfl
      · obtain ⟨_, e, _⟩ := hr 0 (.int .i64 x) rfl
        cases e
    subst hx
    clear hr
    go_enter Try.func155, Try.ntmps155
    go_wp2_with (at_builtin; (refine wpList_append_nil0 rfl _ _ rfl i0 hi0 w.heap.size 0 c (.slice (some ⟨w.heap.size, 0, none⟩) 0 0) [] rfl rfl (own_empty w _) ?_))
    go_ret
    exact ⟨w.heap.size, 0, rfl, own_empty w _, by (repeat (first | with_reducible exact Below.refl _ _ | with_reducible assumption | ((with_reducible refine Bw.set ?_ ?_); rotate_left; focus omega) | ((with_reducible refine Bw.al ?_ ?_); rotate_left; focus (first | omega | (simp; done) | (simp; omega))) | with_reducible refine Below.drew ?_ | with_reducible refine Bw.dr ?_ _))⟩
  · have HN := Lib.hid (show ∀ j u, (iv xs)[j]? = some u → (w.alloc (.cells #[] 2)).cell? (ad.add j) = some u from fun j u hu => by
      obtain ⟨ad', e, hlt, hc⟩ := hr j u hu
      injection e with e
      subst e
      rw [World.cell?_alloc_lt w _ _ (by rw [addBlock]; exact hlt)]
      exact hc)
    clear hr
    go_enter Try.func155, Try.ntmps155
    go_wp2_with (at_builtin; (refine wpList_append_own_at _ rfl _ _ _ rfl w.heap.size 2 i0 _ 1 8 Try.underlying24 hi0 hz0 hz1 hz2 rfl (by omega) (.slice (some ⟨w.heap.size, 0, none⟩) 0 0) 0 [] rfl (own_empty w _) ad xs.length c (iv xs) rfl (by rw [iv_len]; omega) HN.out (by simp [iv, Value.oneCell']) (by unfold maxLen; omega) (by omega) (by simp) ?_; intro v' w1 hown1 hgrow hnil hat))
    obtain ⟨g, cap, rfl⟩ := own_some hown1 (fun h => by have := (hnil.1 h).1; cases this)
    have HW := Lib.hid hown1
    clear hown1 hnil
    go_ret
    refine ⟨g, cap, ?_, by simpa using HW.out, below_own (w1 := w.alloc _) (own_empty w 2) (by (repeat (first | with_reducible exact Below.refl _ _ | with_reducible assumption | ((with_reducible refine Bw.set ?_ ?_); rotate_left; focus omega) | ((with_reducible refine Bw.al ?_ ?_); rotate_left; focus (first | omega | (simp; done) | (simp; omega))) | with_reducible refine Below.drew ?_ | with_reducible refine Bw.dr ?_ _))) (by simp) hgrow⟩
    simp
theorem bub_pos (ys : List Int) {k : Nat} (h : 0 < k) : bub ys k = if ys.getD k 0 < ys.getD (k - 1) 0 then bub (swp ys (k - 1)) (k - 1) else ys := by
  obtain ⟨j, rfl⟩ : ∃ j, k = j + 1 := ⟨k - 1, by omega⟩
  rw [bub, show j + 1 - 1 = j by omega]
theorem iv_set (ys : List Int) (k : Nat) (x : Int) : (iv ys).set k (.int .i64 x) = iv (ys.set k x) := by simp [iv, List.map_set]
set_option maxRecDepth 100000 in
set_option maxHeartbeats 4000000 in
theorem impl_sorted (A : Option Addr) (c : Nat) (xs : List Int) (w : World) (hl : xs.length ≤ 1048576) (hr : Rd w w.heap.size A (iv xs)) : Calls Try.prog 128 #[.slice A xs.length c] w (WrInts w (isort xs xs.length)) := by
  have HR := Lib.hid hr
  clear hr
  go_enter Try.func128, Try.ntmps128
  go_wp2_with fail
  (with_reducible refine (impl_copyList A c xs _ hl HR.out).mono ?_)
  rintro e w1 ⟨g, cap, rfl, hown, hb1⟩
  obtain ⟨hw1, hg⟩ := own_wr hown
  have W1 := Lib.hid hw1
  have B1 := Lib.hid hb1
  clear hown hw1 hb1
  go_wp2_with fail
  go_loopw [11, 4, 5, 6] (fun s11 _ _ _ wr => ∃ i : Nat, i ≤ xs.length ∧ s11 = .int .i64 i ∧ Wr wr (some ⟨g, 0, none⟩) (iv (srt xs i)) ∧ Below w.heap.size w wr) (fun s11 _ _ _ _ => xs.length - (intOf s11).toNat)
  case atStart => exact ⟨0, Nat.zero_le _, rfl, W1.out, B1.out⟩
  case round =>
    obtain ⟨i, hi, rfl, hw, hb⟩ := hrel
    have HW := Lib.hid hw
    have HB := Lib.hid hb
    clear hw hb W1 B1
    by_cases hlt : i < xs.length
    · have HL := Lib.hid (srt_len xs i)
      have HS := Lib.hid (show srt xs (i + 1) = bub (srt xs i) i from rfl)
      generalize srt xs i = y0 at *
      obtain ⟨wo, rfl⟩ : ∃ wo : World, wo = wr := ⟨_, rfl⟩
      go_wp2_with fail
      go_loopw [5, 6] (fun s5 _ wr => ∃ (k : Nat) (ys : List Int), k ≤ i ∧ s5 = .int .i64 k ∧ ys.length = xs.length ∧ bub y0 i = bub ys k ∧ Wr wr (some ⟨g, 0, none⟩) (iv ys) ∧ Below w.heap.size w wr) (fun s5 _ _ => (intOf s5).toNat)
      case atStart => exact ⟨i, y0, Nat.le_refl _, rfl, HL.out, rfl, HW.out, HB.out⟩
      case round =>
        obtain ⟨k, ys, hk, rfl, hlen, hbub, hw, hb⟩ := hrel
        have HWI := Lib.hid hw
        have HBI := Lib.hid hb
        have HLEN := Lib.hid hlen
        have HBUB := Lib.hid hbub
        have hkl : k < ys.length := by omega
        have hkx : (k : Int) < xs.length := by omega
        have hz := hb.size
        clear hw hb hlen hbub HW HB
        rcases Nat.eq_zero_or_pos k with h0 | h0
        · have HE := Lib.hid (show bub y0 i = ys by rw [HBUB.out, h0]; rfl)
          have g0 : decide (0 < k) = false := decide_eq_false (by omega)
          clear h0
          go_wp2_with fail
          refine region_aft wr (by kernel_rfl) (by kernel_rfl) (Below.refl _ _) ?_
          repeat (go_big_quiet_step (fail))
          refine wpQuiet_nil ?_
          rintro w2 ⟨⟨_, b2⟩, rfl⟩
          go_wp2_with fail
          go_roundw
          case rel => exact ⟨i + 1, by omega, by go_num, by rw [HS.out, HE.out]; exact HWI.out.below b2, HBI.out.trans (b2.mono hz)⟩
          case measure => simp [intOf]; omega
        have HP := Lib.hid (bub_pos ys h0)
        have HSW := Lib.hid (show swp ys (k - 1) = (ys.set k (ys.getD (k - 1) 0)).set (k - 1) (ys.getD k 0) by rw [swp, show k - 1 + 1 = k by omega])
        obtain ⟨_, e1, hgl, d1, f1⟩ := HWI.out.at_ (k := k - 1) (by rw [iv_len]; omega)
        cases e1
        obtain ⟨_, e2, _, d2, f2⟩ := HWI.out.at_ (k := k) (by rw [iv_len]; omega)
        cases e2
        have k1 : (iv ys)[k - 1]'(by rw [iv_len]; omega) = .int .i64 (ys.getD (k - 1) 0) := by simp [iv, List.getD_eq_getElem?_getD, show k - 1 < ys.length by omega]
        have k2 : (iv ys)[k]'(by rw [iv_len]; omega) = .int .i64 (ys.getD k 0) := by simp [iv, List.getD_eq_getElem?_getD, hkl]
        rw [k1] at d1
        rw [k2] at d2
        clear k1 k2
        generalize ys.getD (k - 1) 0 = x at *
        generalize ys.getD k 0 = y at *
        have g0 : decide (0 < k) = true := decide_eq_true h0
        have q1 : IntKind.i64.wrap ((k : Int) - 1) = (k : Int) - 1 := IntWalk.i64_in _ (by omega)
        have q2 : ((k : Int) - 1).toNat = k - 1 := by omega
        have q3 : (0 : Int) ≤ (k : Int) - 1 := by omega
        have q4 : (k : Int) - 1 < xs.length := by omega
        have d1y : ∀ v : Aft wr, v.w.cell? ⟨g, k - 1, none⟩ = some (.int .i64 x) := fun v => (v.hb.cell (p := ⟨g, k - 1, none⟩) hgl).trans d1
        have d2y : ∀ v : Aft wr, v.w.cell? ⟨g, k, none⟩ = some (.int .i64 y) := fun v => (v.hb.cell (p := ⟨g, k, none⟩) hgl).trans d2
        clear d1 d2 f1 f2
        by_cases hyx : y < x
        · have HE := Lib.hid (show bub y0 i = bub (swp ys (k - 1)) (k - 1) by rw [HBUB.out, HP.out, if_pos hyx])
          go_wp2_with fail
          refine region_aft wr (by kernel_rfl) (by kernel_rfl) (Below.refl _ _) ?_
          repeat (go_big_quiet_step (fail))
          refine wpQuiet_nil ?_
          rintro w2 ⟨⟨_, b2⟩, rfl⟩
          have HW2 := Lib.hid (HWI.out.below b2)
          have hB2 : Below w.heap.size w w2 := HBI.out.trans (b2.mono hz)
          have d1 := d1y ⟨w2, b2⟩
          have d2 := d2y ⟨w2, b2⟩
          have f1 : w2.frozen? ⟨g, k - 1, none⟩ = false := by obtain ⟨_, e, _, _, hf⟩ := HW2.out.at_ (k := k - 1) (by rw [iv_len]; omega); cases e; exact hf
          have f2 : w2.frozen? ⟨g, k, none⟩ = false := by obtain ⟨_, e, _, _, hf⟩ := HW2.out.at_ (k := k) (by rw [iv_len]; omega); cases e; exact hf
          simp only at d1 d2
          clear d1y d2y q1 q2 q3 q4 g0
          go_wp2_with fail
          go_roundw
          case rel =>
            refine ⟨k - 1, swp ys (k - 1), by omega, by go_num, by rw [swp_len]; exact HLEN.out, HE.out, ?_, by (repeat (first | with_reducible exact Below.refl _ _ | with_reducible assumption | ((with_reducible refine Bw.set ?_ ?_); rotate_left; focus omega) | ((with_reducible refine Bw.al ?_ ?_); rotate_left; focus (first | omega | (simp; done) | (simp; omega))) | with_reducible refine Below.drew ?_ | with_reducible refine Bw.dr ?_ _))⟩
            rw [HSW.out, ← iv_set, ← iv_set]
            exact (HW2.out.set (by rw [iv_len]; exact hkl) _).set (by simp [iv]; omega) _
          case measure => simp [intOf]; omega
        · have HE := Lib.hid (show bub y0 i = ys by rw [HBUB.out, HP.out, if_neg hyx])
          have hyx' : decide (y < x) = false := decide_eq_false hyx
          go_wp2_with fail
          refine region_aft wr (by kernel_rfl) (by kernel_rfl) (Below.refl _ _) ?_
          repeat (go_big_quiet_step (fail))
          refine wpQuiet_nil ?_
          rintro w2 ⟨⟨_, b2⟩, rfl⟩
          clear d1y d2y q1 q2 q3 q4 g0
          go_wp2_with fail
          go_roundw
          case rel => exact ⟨i + 1, by omega, by go_num, by rw [HS.out, HE.out]; exact HWI.out.below b2, HBI.out.trans (b2.mono hz)⟩
          case measure => simp [intOf]; omega
    · obtain rfl : i = xs.length := by omega
      have HA := Lib.hid (srt_all xs)
      have HN := Lib.hid (isort_len xs xs.length)
      go_wp2_with fail
      go_ret
      exact ⟨g, cap, by rw [HN.out]; rfl, by rw [← HA.out]; exact HW.out, hg, HB.out⟩

end Go.Proofs.Ytpejbmfapdocaaa
