/- SortNumbers of the program and the reference. Condition: the slice reads as a list. -/
import Derived.Test.YtpejbmfapdocaaaSo
import Derived.Deep.RegionLaw
namespace Go.Proofs.Ytpejbmfapdocaaa
open Go.RowKit

def snF (xs : List Int) : List Int × Int := if allV xs then (if 60 < xs.length then ([], 3) else (isort xs xs.length, 0)) else ([], 2)
theorem snF_n {xs : List Int} (h : allV xs = false) : snF xs = ([], 2) := by rw [snF, h]; rfl
theorem snF_l {xs : List Int} (h : allV xs = true) (h2 : 60 < xs.length) : snF xs = ([], 3) := by rw [snF, if_pos h, if_pos h2]
theorem snF_y {xs : List Int} (h : allV xs = true) (h2 : ¬ 60 < xs.length) : snF xs = (isort xs xs.length, 0) := by rw [snF, if_pos h, if_neg h2]
set_option maxRecDepth 100000 in
set_option maxHeartbeats 2000000 in
theorem impl_SortNumbers (A : Option Addr) (c : Nat) (xs : List Int) (w : World) (hl : xs.length ≤ 1048576) (hr : Rd w w.heap.size A (iv xs)) : Calls Try.prog 52 #[.slice A xs.length c] w (WrInts2 w (snF xs).1 (snF xs).2) := by
  have HR := Lib.hid hr
  have HM := Lib.hid (show xs.length ≤ maxLen by unfold maxLen; omega)
  clear hr
  rcases h1 : allV xs with _ | _
  · have HE := Lib.hid (snF_n h1)
    generalize snF xs = out at *
    have H1 := Lib.hid h1
    clear h1
    go_enter Try.func52, Try.ntmps52
    go_wp2_with fail
    refine (impl_areValues _ _ _ _ HM.out HR.out).mono ?_
    rintro e w1 ⟨rfl, rfl⟩
    rw [H1.out]
    go_wp2_with fail
    go_ret2
    exact ⟨none, 0, by rw [HE.out]; rfl, by rw [HE.out]; exact Wr.nil, by simp, by (repeat (first | with_reducible exact Below.refl _ _ | with_reducible assumption | ((with_reducible refine Bw.set ?_ ?_); rotate_left; focus omega) | ((with_reducible refine Bw.al ?_ ?_); rotate_left; focus (first | omega | (simp; done) | (simp; omega))) | with_reducible refine Below.drew ?_ | with_reducible refine Bw.dr ?_ _))⟩
  by_cases h2 : 60 < xs.length
  · have HE := Lib.hid (snF_l h1 h2)
    generalize snF xs = out at *
    have H1 := Lib.hid h1
    clear h1
    go_enter Try.func52, Try.ntmps52
    go_wp2_with fail
    refine (impl_areValues _ _ _ _ HM.out HR.out).mono ?_
    rintro e w1 ⟨rfl, rfl⟩
    rw [H1.out]
    go_wp2_with fail
    go_ret2
    exact ⟨none, 0, by rw [HE.out]; rfl, by rw [HE.out]; exact Wr.nil, by simp, by (repeat (first | with_reducible exact Below.refl _ _ | with_reducible assumption | ((with_reducible refine Bw.set ?_ ?_); rotate_left; focus omega) | ((with_reducible refine Bw.al ?_ ?_); rotate_left; focus (first | omega | (simp; done) | (simp; omega))) | with_reducible refine Below.drew ?_ | with_reducible refine Bw.dr ?_ _))⟩
  · have HE := Lib.hid (snF_y h1 h2)
    generalize snF xs = out at *
    have H1 := Lib.hid h1
    clear h1
    go_enter Try.func52, Try.ntmps52
    go_wp2_with fail
    refine (impl_areValues _ _ _ _ HM.out HR.out).mono ?_
    rintro e w1 ⟨rfl, rfl⟩
    rw [H1.out]
    go_wp2_with fail
    (with_reducible refine (impl_sorted A c xs _ hl HR.out).mono ?_)
    rintro e w2 ⟨g, k, rfl, hw, hg, hb⟩
    have HW := Lib.hid hw
    clear hw
    go_wp2_with fail
    go_ret2
    exact ⟨_, k, by rw [HE.out]; rfl, by rw [HE.out]; exact HW.out, by simp; exact hg, hb⟩
theorem own_cap {w : World} {base n g cap : Nat} {e : TypeId} {us : List Value} (h : w.ownsRow base e 1 (.slice (some ⟨g, 0, none⟩) n cap) n us) : n ≤ cap := by
  rcases h.2 with ⟨h1, _⟩ | ⟨g', cap', cur, h1, _, _, hn, _⟩
  · cases h1
  · simp only [Value.slice.injEq] at h1
    omega
theorem own_le {w : World} {base base' n : Nat} {e : TypeId} {v : Value} {us : List Value} (h : w.ownsRow base e 1 v n us) (hb : base' ≤ base) : w.ownsRow base' e 1 v n us :=
  ⟨h.1, h.2.elim .inl fun ⟨g, cap, cur, hv, hg, r⟩ => .inr ⟨g, cap, cur, hv, Nat.le_trans hb hg, r⟩⟩
theorem own_read_some {w : World} {base n g cap : Nat} {e : TypeId} {us : List Value} (h : w.ownsRow base e 1 (.slice (some ⟨g, 0, none⟩) n cap) n us) : Rd w w.heap.size (some ⟨g, 0, none⟩) us := (own_wr h).1.rd
/-- An append of numbers onto a slice of the call's own, as a step of a region that draws. -/
theorem step_append_nums {w : World} {ops : Array Oper} {o : Oper} {a : Act} {K : Act → World → Prop} {Q : Exit → Act → World → Prop} {E : Prop} (i : TypeInfo) (hi : Try.prog.info? 2 = some i) (hz : i.zero = some (.int .i64 0)) (hsize : i.size = 1) (hby : i.bytes = 8)
    (hgd : o.guard = none) (s x : Operand) (ho : o.op = .call { callee := .builtin .append, args := #[s, x], argTypes := #[24, 24] }) (base : Nat)
    (v : Value) (n : Nat) (xs : List Value) (hs : a.eval s = v) (hown : w.ownsRow base 2 1 v n xs)
    (ad : Addr) (m c : Nat) (news : List Int) (hx : a.eval x = .slice (some ad) m c) (hl : news.length = m) (hnews : ∀ j u, (iv news)[j]? = some u → w.cell? (ad.add j) = some u)
    (hsm : n + m ≤ 1000000000) (hbase : base ≤ w.heap.size)
    (h : ∀ v' w', w'.ownsRow base 2 1 v' (n + m) (xs ++ iv news) → w.grownBy w' v.ownBlock → (v' = .slice none 0 0 ↔ v = .slice none 0 0 ∧ m = 0) → K (a.put o.dst v') w') :
    if Region.wanted o (yielded ops a.tmps) = true then Oper.wp Try.prog o a w K Q else E := by
  have hw : Region.wanted o (yielded ops a.tmps) = true := by simp [Region.wanted, hgd]
  rw [if_pos hw]
  obtain ⟨v', w', hr, h2, h3, h4, _⟩ := run_append_own_at (P := Try.prog) w base 24 o.type 2 i (.int .i64 0) 1 8 Try.underlying24 hi hz hsize hby rfl (by omega) v n xs hown ad m c (iv news) (by rw [iv_len]; omega) hnews (by simp [iv, Value.oneCell']) (by unfold maxLen; omega) (by omega) hbase
  unfold Oper.wp execOp
  simp only [ho, resolve, invoke, builtin, Sem.run_bind, Sem.run_pure, Result.andThen_ok, List.map_toArray, List.map_cons, List.map_nil, hs, hx, hr]
  exact h v' w' h2 h3 h4
theorem sort_close {w : World} {B N i g cap a : Nat} {T : TypeId} {S R : List Int} {x : Int} (h : w.ownsRow B T 1 (.slice (some ⟨g, 0, none⟩) N cap) N (([] ++ iv (S.take a) ++ iv [x]) ++ iv (S.drop a))) (hN : N = i + 1) (hs : S.take a ++ [x] ++ S.drop a = R) : w.ownsRow B T 1 (.slice (some ⟨g, 0, none⟩) (i + 1) cap) (i + 1) (iv R) := by
  subst hN hs
  simpa [iv] using h
theorem sort_close0 {w : World} {B N i g cap a : Nat} {T : TypeId} {S R : List Int} {x : Int} (h : w.ownsRow B T 1 (.slice (some ⟨g, 0, none⟩) N cap) N (([] ++ iv (S.take a) ++ iv [x]) ++ iv [])) (hN : N = i + 1) (ha : S.length ≤ a) (hs : S.take a ++ [x] ++ S.drop a = R) : w.ownsRow B T 1 (.slice (some ⟨g, 0, none⟩) (i + 1) cap) (i + 1) (iv R) := by
  subst hN hs
  rw [List.drop_eq_nil_of_le ha]
  simpa [iv] using h
theorem cell_new_at (w : World) (cs : Array Value) (T : TypeId) (n : Nat) (hn : n = w.heap.size) : (w.alloc (.cells cs T)).cell? ⟨n, 0, none⟩ = cs[0]? := by subst hn; exact cell_new w cs T 0
theorem heap_new_at {w : World} {o : Obj} {n : Nat} (hn : n = w.heap.size) : (w.alloc o).heap[n]? = some o := by subst hn; exact heap_alloc_new w o
theorem own_look {W : World} {h base : Nat} {T : TypeId} (hW : W.heap[h]? = some (.cells #[] T (0, 0))) (hb : base ≤ h) : W.ownsRow base T 1 (.slice (some ⟨h, 0, none⟩) 0 0) 0 [] :=
  ⟨rfl, .inr ⟨h, 0, _, rfl, hb, hW, Nat.zero_le _, by unfold maxLen; omega, rfl, rfl⟩⟩
theorem news_take {w W : World} {base g i cap : Nat} {T : TypeId} {S : List Int} (h : w.ownsRow base T 1 (.slice (some ⟨g, 0, none⟩) i cap) i (iv S)) (hb : Below w.heap.size w W) (a : Nat) :
    ∀ j u, (iv (S.take a))[j]? = some u → W.cell? ((⟨g, 0, none⟩ : Addr).add j) = some u := fun j u hu => by
  have hu2 : (iv S)[j]? = some u := by
    simp only [iv, List.map_take, List.getElem?_take] at hu
    split at hu
    · exact hu
    · cases hu
  obtain ⟨_, e, hlt, hc⟩ := (own_read_some h) j u hu2
  injection e with e
  subst e
  exact (hb.cell (p := Addr.add ⟨g, 0, none⟩ j) (by rw [addBlock]; exact hlt)).trans hc
theorem news_drop {w W : World} {base g i cap : Nat} {T : TypeId} {S : List Int} (h : w.ownsRow base T 1 (.slice (some ⟨g, 0, none⟩) i cap) i (iv S)) (hb : Below w.heap.size w W) (a : Nat) :
    ∀ j u, (iv (S.drop a))[j]? = some u → W.cell? ((⟨g, a, none⟩ : Addr).add j) = some u := fun j u hu => by
  have hu2 : (iv S)[a + j]? = some u := by
    rw [← hu]
    simp [iv]
  obtain ⟨_, e, hlt, hc⟩ := (own_read_some h) (a + j) u hu2
  injection e with e
  subst e
  rw [Addr.add_lit] at hc ⊢
  rw [Nat.zero_add] at hc
  exact (hb.cell (p := ⟨g, a + j, none⟩) hlt).trans hc
theorem news_one {W : World} {h : Nat} {x : Int} (hc : W.cell? ⟨h, 0, none⟩ = some (.int .i64 x)) : ∀ j u, (iv [x])[j]? = some u → W.cell? ((⟨h, 0, none⟩ : Addr).add j) = some u := fun j u hu => by
  rcases j with _ | j
  · rw [Addr.add_lit]
    simp [iv] at hu
    subst hu
    exact hc
  · simp [iv] at hu
set_option maxRecDepth 100000 in
set_option maxHeartbeats 4000000 in
theorem spec_SortNumbers (A : Option Addr) (c : Nat) (xs : List Int) (w : World) (hl : xs.length ≤ 1048576) (hr : Rd w w.heap.size A (iv xs)) : Calls Try.prog 53 #[.slice A xs.length c] w (WrInts2 w (snF xs).1 (snF xs).2) := by
  obtain ⟨i0, hi0, hz0, hz1, hz2⟩ := info_parts Try.infoS
  have HR := Lib.hid hr
  have HM := Lib.hid (show xs.length ≤ maxLen by unfold maxLen; omega)
  clear hr
  rcases h1 : allV xs with _ | _
  · have HE := Lib.hid (snF_n h1)
    generalize snF xs = out at *
    have HC := Lib.hid (show vcF xs = 2 by rw [vcF, h1]; rfl)
    clear h1
    go_enter Try.func53, Try.ntmps53
    go_wp2_with fail
    refine (spec_Values _ _ _ _ HM.out HR.out).mono ?_
    rintro e w1 ⟨rfl, rfl⟩
    rw [HC.out]
    go_wp2_with fail
    go_ret2
    exact ⟨none, 0, by rw [HE.out]; rfl, by rw [HE.out]; exact Wr.nil, by simp, by (repeat (first | with_reducible exact Below.refl _ _ | with_reducible assumption | ((with_reducible refine Bw.set ?_ ?_); rotate_left; focus omega) | ((with_reducible refine Bw.al ?_ ?_); rotate_left; focus (first | omega | (simp; done) | (simp; omega))) | with_reducible refine Below.drew ?_ | with_reducible refine Bw.dr ?_ _))⟩
  by_cases h2 : 60 < xs.length
  · have HE := Lib.hid (snF_l h1 h2)
    generalize snF xs = out at *
    have HC := Lib.hid (show vcF xs = 3 by rw [vcF, if_pos h1, if_pos h2])
    clear h1
    go_enter Try.func53, Try.ntmps53
    go_wp2_with fail
    refine (spec_Values _ _ _ _ HM.out HR.out).mono ?_
    rintro e w1 ⟨rfl, rfl⟩
    rw [HC.out]
    go_wp2_with fail
    go_ret2
    exact ⟨none, 0, by rw [HE.out]; rfl, by rw [HE.out]; exact Wr.nil, by simp, by (repeat (first | with_reducible exact Below.refl _ _ | with_reducible assumption | ((with_reducible refine Bw.set ?_ ?_); rotate_left; focus omega) | ((with_reducible refine Bw.al ?_ ?_); rotate_left; focus (first | omega | (simp; done) | (simp; omega))) | with_reducible refine Below.drew ?_ | with_reducible refine Bw.dr ?_ _))⟩
  have HE := Lib.hid (snF_y h1 h2)
  generalize snF xs = out at *
  have HC := Lib.hid (show vcF xs = 0 by rw [vcF, if_pos h1, if_neg h2])
  clear h1
  go_enter Try.func53, Try.ntmps53
  go_wp2_with fail
  refine (spec_Values _ _ _ _ HM.out HR.out).mono ?_
  rintro e w1 ⟨rfl, rfl⟩
  rw [HC.out]
  go_wp2_with fail
  go_loopw [6, 5, 7] (fun s6 s5 _ wr => ∃ i g cap : Nat, i ≤ xs.length ∧ i ≤ cap ∧ s6 = .int .i64 i ∧ s5 = .slice (some ⟨g, 0, none⟩) i cap ∧ wr.ownsRow w.heap.size 2 1 (.slice (some ⟨g, 0, none⟩) i cap) i (iv (isort xs i)) ∧ Below w.heap.size w wr) (fun s6 _ _ _ => xs.length - (intOf s6).toNat)
  case atStart => exact ⟨0, w.heap.size, 0, Nat.zero_le _, Nat.zero_le _, rfl, rfl, own_empty w _, by (repeat (first | with_reducible exact Below.refl _ _ | with_reducible assumption | ((with_reducible refine Bw.set ?_ ?_); rotate_left; focus omega) | ((with_reducible refine Bw.al ?_ ?_); rotate_left; focus (first | omega | (simp; done) | (simp; omega))) | with_reducible refine Below.drew ?_ | with_reducible refine Bw.dr ?_ _))⟩
  case round =>
    obtain ⟨i, g, cap, hi, hcap, rfl, rfl, hown, hb⟩ := hrel
    have HOWN := Lib.hid hown
    have HB := Lib.hid hb
    have HG := Lib.hid (own_wr hown)
    have hz := hb.size
    by_cases hlt : i < xs.length
    · obtain ⟨ad, rfl, ha⟩ := (HR.out.keep hb).int hlt
      have HS := Lib.hid (show isort xs (i + 1) = insL (isort xs i) (xs.getD i 0) from rfl)
      have HL := Lib.hid (isort_len xs i)
      generalize xs.getD i 0 = x at *
      generalize isort xs i = S at *
      clear hown hb
      obtain ⟨wo, rfl⟩ : ∃ wo : World, wo = wr := ⟨_, rfl⟩
      go_wp2_with fail
      go_loopw [7] (fun s7 wr => ∃ a : Nat, a ≤ i ∧ s7 = .int .i64 a ∧ (∀ j, j < a → S.getD j 0 ≤ x) ∧ Below wo.heap.size wo wr) (fun s7 _ => i - (intOf s7).toNat)
      case atStart => exact ⟨0, Nat.zero_le _, rfl, fun j h => absurd h (by omega), by (repeat (first | with_reducible exact Below.refl _ _ | with_reducible assumption | ((with_reducible refine Bw.set ?_ ?_); rotate_left; focus omega) | ((with_reducible refine Bw.al ?_ ?_); rotate_left; focus (first | omega | (simp; done) | (simp; omega))) | with_reducible refine Below.drew ?_ | with_reducible refine Bw.dr ?_ _))⟩
      case round =>
        obtain ⟨a, hai, rfl, hle, hbi⟩ := hrel
        have HLE := Lib.hid hle
        have HBI := Lib.hid hbi
        have hzi := hbi.size
        have ha2 : ∀ y : Aft wr, y.w.cell? (ad.add i) = some (.int .i64 x) := fun y => by
          exact ((HBI.out.trans (y.hb.mono hzi)).cell (p := ad.add i) (World.block_lt_of_cell? wo _ ha)).trans ha
        clear hle hbi
        by_cases hal : a < i
        · have hal2 : (a : Int) < (i : Int) := by omega
          have hd : ∀ y : Aft wr, y.w.cell? ⟨g, a, none⟩ = some (.int .i64 (S.getD a 0)) := fun y => by
            obtain ⟨_, e, hlt2, hc⟩ := (own_read_some HOWN.out) a (.int .i64 (S.getD a 0)) (iv_get (by rw [HL.out]; exact hal))
            cases e
            rw [Addr.add_lit, Nat.zero_add] at hc
            exact ((HBI.out.trans (y.hb.mono hzi)).cell (p := ⟨g, a, none⟩) hlt2).trans hc
          have g0 : decide (a < i) = true := decide_eq_true hal
          generalize hz0 : S.getD a 0 = z at *
          have HZ := Lib.hid hz0
          clear hz0
          rcases Int.lt_or_le x z with hsx | hsx
          · have hsx2 : decide (z ≤ x) = false := decide_eq_false (by omega)
            have hca : ¬ cap = a := by omega
            go_wp2_with fail
            refine region_aft wr (by kernel_rfl) (by kernel_rfl) (Below.refl _ _) ?_
            repeat (go_big_quiet_step (fail))
            refine wpQuiet_nil ?_
            rintro w2 ⟨⟨_, b2⟩, rfl⟩
            go_wp2_with fail
            have hA := ha2 ⟨w2, b2⟩
            simp only at hA
            have r1 : (0 : Int) ≤ (a : Int) := by omega
            have r2 : (a : Int) ≤ (i : Int) := by omega
            have r3 : (a : Int) ≤ (cap : Int) := by omega
            have r4 : (i : Int) ≤ (cap : Int) := by omega
            have r5 : (i : Int) < (xs.length : Int) := by omega
            have r6 : (0 : Int) ≤ (i : Int) := by omega
            have HBW := Lib.hid (HB.out.trans (HBI.out.mono hz) |>.trans (b2.mono (Nat.le_trans hz hzi)))
            have HW2 := Lib.hid (own_below HOWN.out (HBI.out.trans (b2.mono hzi)))
            have HLL := Lib.hid HL.out
            have HKA := Lib.hid (fun (W : World) (hb : Below w2.heap.size w2 W) => (hb.cell (p := ad.add i) (World.block_lt_of_cell? w2 _ hA)).trans hA)
            have hLo : ∀ o : Obj, (w2.alloc o).cell? (ad.add i) = some (.int .i64 x) := fun o => HKA.out _ (by (repeat (first | with_reducible exact Below.refl _ _ | with_reducible assumption | ((with_reducible refine Bw.set ?_ ?_); rotate_left; focus omega) | ((with_reducible refine Bw.al ?_ ?_); rotate_left; focus (first | omega | (simp; done) | (simp; omega))) | with_reducible refine Below.drew ?_ | with_reducible refine Bw.dr ?_ _)))
            clear ha2
            go_region_law (first
              | (refine step_append_nums i0 hi0 hz0 hz1 hz2 (by rfl) (.tmp 37) (.tmp 40) (by rfl) w2.heap.size _ _ _ (by rfl) (own_look (by first | exact heap_new_at (w := w2) rfl | exact (Below.heap_alloc (w2.alloc _) _ w2.heap.size (by simp)).trans (heap_new_at (w := w2) rfl) | exact heap_new_at (w := w2.alloc _) (by simp)) (by first | exact Nat.le_refl _ | omega)) _ _ _ (S.take a) (by rfl) (by rw [List.length_take, HLL.out]; omega) (news_take HW2.out (by (repeat (first | with_reducible exact Below.refl _ _ | with_reducible assumption | ((with_reducible refine Bw.set ?_ ?_); rotate_left; focus omega) | ((with_reducible refine Bw.al ?_ ?_); rotate_left; focus (first | omega | (simp; done) | (simp; omega))) | with_reducible refine Below.drew ?_ | with_reducible refine Bw.dr ?_ _))) a) (by omega) (by first | (simp; done) | (simp; omega)) ?_
                 intro vA wA hownA hgA hnilA
                 have hBA : Below w2.heap.size w2 wA := Below.grown (by (repeat (first | with_reducible exact Below.refl _ _ | with_reducible assumption | ((with_reducible refine Bw.set ?_ ?_); rotate_left; focus omega) | ((with_reducible refine Bw.al ?_ ?_); rotate_left; focus (first | omega | (simp; done) | (simp; omega))) | with_reducible refine Below.drew ?_ | with_reducible refine Bw.dr ?_ _))) hgA (by first | (simp; done) | (simp; omega)) (by intro k hk; simp [Value.ownBlock] at hk; omega)
                 have hLA := HKA.out _ hBA
                 have hzA := hBA.size
                 have hfarA := fun b hlt hne => hgA.cell_far ⟨b, 0, none⟩ hlt hne
                 clear hnilA hgA)
              | (refine step_append_nums i0 hi0 hz0 hz1 hz2 (by rfl) (.tmp 41) (.tmp 46) (by rfl) w2.heap.size _ _ _ (by rfl) (by first | exact hownA | exact hownA.alloc _) _ _ _ [x] (by rfl) (by rfl) (news_one (by first | exact cell_new wA _ _ 0 | exact (hfarA w2.heap.size (by simp; omega) (by simp [Value.ownBlock])).trans ((World.cell?_alloc_lt _ _ ⟨w2.heap.size, 0, none⟩ (by simp)).trans (cell_new w2 _ _ 0)) | exact (hfarA (w2.heap.size + 1) (by simp) (by simp [Value.ownBlock])).trans (cell_new_at (w2.alloc _) _ _ _ (by simp)))) (by omega) (by first | omega | (simp; omega)) ?_
                 intro vB wB hownB hgB hnilB
                 have hBB : Below w2.heap.size w2 wB := Below.grown (by (repeat (first | with_reducible exact Below.refl _ _ | with_reducible assumption | ((with_reducible refine Bw.set ?_ ?_); rotate_left; focus omega) | ((with_reducible refine Bw.al ?_ ?_); rotate_left; focus (first | omega | (simp; done) | (simp; omega))) | with_reducible refine Below.drew ?_ | with_reducible refine Bw.dr ?_ _))) hgB (by first | omega | (simp; omega)) (own_base hownA)
                 have hnB : vB ≠ .slice none 0 0 := fun h => absurd (hnilB.1 h).2 (by omega)
                 clear hnilB hgB hfarA)
              | (refine step_append_nums i0 hi0 hz0 hz1 hz2 (by rfl) (.tmp 47) (.tmp 50) (by rfl) w2.heap.size _ _ _ (by rfl) hownB _ _ _ (S.drop a) (by rfl) (by rw [List.length_drop, HLL.out]) (news_drop HW2.out hBB a) (by omega) hBB.size ?_
                 intro vC wC hownC hgC hnilC
                 have hBC : Below w2.heap.size w2 wC := Below.grown hBB hgC hBB.size (own_base hownB)
                 have hnC : vC ≠ .slice none 0 0 := fun h => hnB (hnilC.1 h).1
                 clear hgC hnilC))
            all_goals
              obtain ⟨g2, cap2, rfl⟩ := own_some hownC hnC
              have hcap2 := own_cap hownC
              have HWC := Lib.hid (own_le hownC (HBW.out.size))
              have HBC := Lib.hid (HBW.out.trans (hBC.mono HBW.out.size))
              clear hownA hownB hownC hBA hBB hBC hnB hnC
              go_wp2_with fail
              go_roundw
              case rel =>
                have hlen : 0 + a + 1 + (i - a) = i + 1 := by omega
                have hlen2 : a + 1 + (i - a) = i + 1 := by omega
                exact ⟨i + 1, g2, cap2, by omega, by omega, by go_num, by first | rw [hlen] | rw [hlen2], by rw [HS.out]; exact sort_close HWC.out hlen (ins_at S x a (by rw [HLL.out]; omega) HLE.out (fun _ => by rw [HZ.out]; exact hsx)), HBC.out⟩
              case measure => simp [intOf]; omega
          · go_wp2_with fail
            refine region_aft wr (by kernel_rfl) (by kernel_rfl) (Below.refl _ _) ?_
            repeat (go_big_quiet_step (fail))
            refine wpQuiet_nil ?_
            rintro w2 ⟨⟨_, b2⟩, rfl⟩
            go_wp2_with fail
            go_roundw
            case rel =>
              refine ⟨a + 1, by omega, by go_num, fun j hj => ?_, HBI.out.trans (b2.mono hzi)⟩
              by_cases e : j = a
              · rw [e, HZ.out]; exact hsx
              · exact HLE.out j (by omega)
            case measure => simp [intOf]; omega
        · have g0 : decide (a < i) = false := decide_eq_false hal
          by_cases hca : cap = a
          · obtain rfl : a = cap := hca.symm
            clear hca
            go_wp2_with fail
            refine region_aft wr (by kernel_rfl) (by kernel_rfl) (Below.refl _ _) ?_
            repeat (go_big_quiet_step (fail))
            refine wpQuiet_nil ?_
            rintro w2 ⟨⟨_, b2⟩, rfl⟩
            go_wp2_with fail
            have hA := ha2 ⟨w2, b2⟩
            simp only at hA
            have r1 : (0 : Int) ≤ (a : Int) := by omega
            have r2 : (a : Int) ≤ (i : Int) := by omega
            have r3 : (a : Int) ≤ (a : Int) := by omega
            have r4 : (i : Int) ≤ (a : Int) := by omega
            have r5 : (i : Int) < (xs.length : Int) := by omega
            have r6 : (0 : Int) ≤ (i : Int) := by omega
            have HBW := Lib.hid (HB.out.trans (HBI.out.mono hz) |>.trans (b2.mono (Nat.le_trans hz hzi)))
            have HW2 := Lib.hid (own_below HOWN.out (HBI.out.trans (b2.mono hzi)))
            have HLL := Lib.hid HL.out
            have HKA := Lib.hid (fun (W : World) (hb : Below w2.heap.size w2 W) => (hb.cell (p := ad.add i) (World.block_lt_of_cell? w2 _ hA)).trans hA)
            have hLo : ∀ o : Obj, (w2.alloc o).cell? (ad.add i) = some (.int .i64 x) := fun o => HKA.out _ (by (repeat (first | with_reducible exact Below.refl _ _ | with_reducible assumption | ((with_reducible refine Bw.set ?_ ?_); rotate_left; focus omega) | ((with_reducible refine Bw.al ?_ ?_); rotate_left; focus (first | omega | (simp; done) | (simp; omega))) | with_reducible refine Below.drew ?_ | with_reducible refine Bw.dr ?_ _)))
            clear ha2
            go_region_law (first
              | (refine step_append_nums i0 hi0 hz0 hz1 hz2 (by rfl) (.tmp 37) (.tmp 40) (by rfl) w2.heap.size _ _ _ (by rfl) (own_look (by first | exact heap_new_at (w := w2) rfl | exact (Below.heap_alloc (w2.alloc _) _ w2.heap.size (by simp)).trans (heap_new_at (w := w2) rfl) | exact heap_new_at (w := w2.alloc _) (by simp)) (by first | exact Nat.le_refl _ | omega)) _ _ _ (S.take a) (by rfl) (by rw [List.length_take, HLL.out]; omega) (news_take HW2.out (by (repeat (first | with_reducible exact Below.refl _ _ | with_reducible assumption | ((with_reducible refine Bw.set ?_ ?_); rotate_left; focus omega) | ((with_reducible refine Bw.al ?_ ?_); rotate_left; focus (first | omega | (simp; done) | (simp; omega))) | with_reducible refine Below.drew ?_ | with_reducible refine Bw.dr ?_ _))) a) (by omega) (by first | (simp; done) | (simp; omega)) ?_
                 intro vA wA hownA hgA hnilA
                 have hBA : Below w2.heap.size w2 wA := Below.grown (by (repeat (first | with_reducible exact Below.refl _ _ | with_reducible assumption | ((with_reducible refine Bw.set ?_ ?_); rotate_left; focus omega) | ((with_reducible refine Bw.al ?_ ?_); rotate_left; focus (first | omega | (simp; done) | (simp; omega))) | with_reducible refine Below.drew ?_ | with_reducible refine Bw.dr ?_ _))) hgA (by first | (simp; done) | (simp; omega)) (by intro k hk; simp [Value.ownBlock] at hk; omega)
                 have hLA := HKA.out _ hBA
                 have hzA := hBA.size
                 have hfarA := fun b hlt hne => hgA.cell_far ⟨b, 0, none⟩ hlt hne
                 clear hnilA hgA)
              | (refine step_append_nums i0 hi0 hz0 hz1 hz2 (by rfl) (.tmp 41) (.tmp 46) (by rfl) w2.heap.size _ _ _ (by rfl) (by first | exact hownA | exact hownA.alloc _) _ _ _ [x] (by rfl) (by rfl) (news_one (by first | exact cell_new wA _ _ 0 | exact (hfarA w2.heap.size (by simp; omega) (by simp [Value.ownBlock])).trans ((World.cell?_alloc_lt _ _ ⟨w2.heap.size, 0, none⟩ (by simp)).trans (cell_new w2 _ _ 0)) | exact (hfarA (w2.heap.size + 1) (by simp) (by simp [Value.ownBlock])).trans (cell_new_at (w2.alloc _) _ _ _ (by simp)))) (by omega) (by first | omega | (simp; omega)) ?_
                 intro vB wB hownB hgB hnilB
                 have hBB : Below w2.heap.size w2 wB := Below.grown (by (repeat (first | with_reducible exact Below.refl _ _ | with_reducible assumption | ((with_reducible refine Bw.set ?_ ?_); rotate_left; focus omega) | ((with_reducible refine Bw.al ?_ ?_); rotate_left; focus (first | omega | (simp; done) | (simp; omega))) | with_reducible refine Below.drew ?_ | with_reducible refine Bw.dr ?_ _))) hgB (by first | omega | (simp; omega)) (own_base hownA)
                 have hnB : vB ≠ .slice none 0 0 := fun h => absurd (hnilB.1 h).2 (by omega)
                 clear hnilB hgB hfarA)
              | (refine step_append_nums i0 hi0 hz0 hz1 hz2 (by rfl) (.tmp 47) (.tmp 50) (by rfl) w2.heap.size _ _ _ (by rfl) hownB _ _ _ [] (by rfl) (by first | (simp; done) | (simp; omega)) (fun j u hu => by simp [iv] at hu) (by omega) hBB.size ?_
                 intro vC wC hownC hgC hnilC
                 have hBC : Below w2.heap.size w2 wC := Below.grown hBB hgC hBB.size (own_base hownB)
                 have hnC : vC ≠ .slice none 0 0 := fun h => hnB (hnilC.1 h).1
                 clear hgC hnilC))
            all_goals
              obtain ⟨g2, cap2, rfl⟩ := own_some hownC hnC
              have hcap2 := own_cap hownC
              have HWC := Lib.hid (own_le hownC (HBW.out.size))
              have HBC := Lib.hid (HBW.out.trans (hBC.mono HBW.out.size))
              clear hownA hownB hownC hBA hBB hBC hnB hnC
              go_wp2_with fail
              go_roundw
              case rel =>
                have hlen : 0 + a + 1 + (i - a) = i + 1 := by omega
                have hlen2 : a + 1 + (i - a) = i + 1 := by omega
                exact ⟨i + 1, g2, cap2, by omega, by omega, by go_num, by first | rw [hlen] | rw [hlen2] | rw [show a + 1 = i + 1 by omega], by rw [HS.out]; exact sort_close0 HWC.out (by omega) (by rw [HLL.out]; omega) (ins_at S x a (by rw [HLL.out]; omega) HLE.out (fun h => by rw [HLL.out] at h; omega)), HBC.out⟩
              case measure => simp [intOf]; omega
          · skip
            go_wp2_with fail
            refine region_aft wr (by kernel_rfl) (by kernel_rfl) (Below.refl _ _) ?_
            repeat (go_big_quiet_step (fail))
            refine wpQuiet_nil ?_
            rintro w2 ⟨⟨_, b2⟩, rfl⟩
            go_wp2_with fail
            have hA := ha2 ⟨w2, b2⟩
            simp only at hA
            have r1 : (0 : Int) ≤ (a : Int) := by omega
            have r2 : (a : Int) ≤ (i : Int) := by omega
            have r3 : (a : Int) ≤ (cap : Int) := by omega
            have r4 : (i : Int) ≤ (cap : Int) := by omega
            have r5 : (i : Int) < (xs.length : Int) := by omega
            have r6 : (0 : Int) ≤ (i : Int) := by omega
            have HBW := Lib.hid (HB.out.trans (HBI.out.mono hz) |>.trans (b2.mono (Nat.le_trans hz hzi)))
            have HW2 := Lib.hid (own_below HOWN.out (HBI.out.trans (b2.mono hzi)))
            have HLL := Lib.hid HL.out
            have HKA := Lib.hid (fun (W : World) (hb : Below w2.heap.size w2 W) => (hb.cell (p := ad.add i) (World.block_lt_of_cell? w2 _ hA)).trans hA)
            have hLo : ∀ o : Obj, (w2.alloc o).cell? (ad.add i) = some (.int .i64 x) := fun o => HKA.out _ (by (repeat (first | with_reducible exact Below.refl _ _ | with_reducible assumption | ((with_reducible refine Bw.set ?_ ?_); rotate_left; focus omega) | ((with_reducible refine Bw.al ?_ ?_); rotate_left; focus (first | omega | (simp; done) | (simp; omega))) | with_reducible refine Below.drew ?_ | with_reducible refine Bw.dr ?_ _)))
            clear ha2
            go_region_law (first
              | (refine step_append_nums i0 hi0 hz0 hz1 hz2 (by rfl) (.tmp 37) (.tmp 40) (by rfl) w2.heap.size _ _ _ (by rfl) (own_look (by first | exact heap_new_at (w := w2) rfl | exact (Below.heap_alloc (w2.alloc _) _ w2.heap.size (by simp)).trans (heap_new_at (w := w2) rfl) | exact heap_new_at (w := w2.alloc _) (by simp)) (by first | exact Nat.le_refl _ | omega)) _ _ _ (S.take a) (by rfl) (by rw [List.length_take, HLL.out]; omega) (news_take HW2.out (by (repeat (first | with_reducible exact Below.refl _ _ | with_reducible assumption | ((with_reducible refine Bw.set ?_ ?_); rotate_left; focus omega) | ((with_reducible refine Bw.al ?_ ?_); rotate_left; focus (first | omega | (simp; done) | (simp; omega))) | with_reducible refine Below.drew ?_ | with_reducible refine Bw.dr ?_ _))) a) (by omega) (by first | (simp; done) | (simp; omega)) ?_
                 intro vA wA hownA hgA hnilA
                 have hBA : Below w2.heap.size w2 wA := Below.grown (by (repeat (first | with_reducible exact Below.refl _ _ | with_reducible assumption | ((with_reducible refine Bw.set ?_ ?_); rotate_left; focus omega) | ((with_reducible refine Bw.al ?_ ?_); rotate_left; focus (first | omega | (simp; done) | (simp; omega))) | with_reducible refine Below.drew ?_ | with_reducible refine Bw.dr ?_ _))) hgA (by first | (simp; done) | (simp; omega)) (by intro k hk; simp [Value.ownBlock] at hk; omega)
                 have hLA := HKA.out _ hBA
                 have hzA := hBA.size
                 have hfarA := fun b hlt hne => hgA.cell_far ⟨b, 0, none⟩ hlt hne
                 clear hnilA hgA)
              | (refine step_append_nums i0 hi0 hz0 hz1 hz2 (by rfl) (.tmp 41) (.tmp 46) (by rfl) w2.heap.size _ _ _ (by rfl) (by first | exact hownA | exact hownA.alloc _) _ _ _ [x] (by rfl) (by rfl) (news_one (by first | exact cell_new wA _ _ 0 | exact (hfarA w2.heap.size (by simp; omega) (by simp [Value.ownBlock])).trans ((World.cell?_alloc_lt _ _ ⟨w2.heap.size, 0, none⟩ (by simp)).trans (cell_new w2 _ _ 0)) | exact (hfarA (w2.heap.size + 1) (by simp) (by simp [Value.ownBlock])).trans (cell_new_at (w2.alloc _) _ _ _ (by simp)))) (by omega) (by first | omega | (simp; omega)) ?_
                 intro vB wB hownB hgB hnilB
                 have hBB : Below w2.heap.size w2 wB := Below.grown (by (repeat (first | with_reducible exact Below.refl _ _ | with_reducible assumption | ((with_reducible refine Bw.set ?_ ?_); rotate_left; focus omega) | ((with_reducible refine Bw.al ?_ ?_); rotate_left; focus (first | omega | (simp; done) | (simp; omega))) | with_reducible refine Below.drew ?_ | with_reducible refine Bw.dr ?_ _))) hgB (by first | omega | (simp; omega)) (own_base hownA)
                 have hnB : vB ≠ .slice none 0 0 := fun h => absurd (hnilB.1 h).2 (by omega)
                 clear hnilB hgB hfarA)
              | (refine step_append_nums i0 hi0 hz0 hz1 hz2 (by rfl) (.tmp 47) (.tmp 50) (by rfl) w2.heap.size _ _ _ (by rfl) hownB _ _ _ (S.drop a) (by rfl) (by rw [List.length_drop, HLL.out]) (news_drop HW2.out hBB a) (by omega) hBB.size ?_
                 intro vC wC hownC hgC hnilC
                 have hBC : Below w2.heap.size w2 wC := Below.grown hBB hgC hBB.size (own_base hownB)
                 have hnC : vC ≠ .slice none 0 0 := fun h => hnB (hnilC.1 h).1
                 clear hgC hnilC))
            all_goals
              obtain ⟨g2, cap2, rfl⟩ := own_some hownC hnC
              have hcap2 := own_cap hownC
              have HWC := Lib.hid (own_le hownC (HBW.out.size))
              have HBC := Lib.hid (HBW.out.trans (hBC.mono HBW.out.size))
              clear hownA hownB hownC hBA hBB hBC hnB hnC
              go_wp2_with fail
              go_roundw
              case rel =>
                have hlen : 0 + a + 1 + (i - a) = i + 1 := by omega
                have hlen2 : a + 1 + (i - a) = i + 1 := by omega
                exact ⟨i + 1, g2, cap2, by omega, by omega, by go_num, by first | rw [hlen] | rw [hlen2], by rw [HS.out]; exact sort_close HWC.out hlen (ins_at S x a (by rw [HLL.out]; omega) HLE.out (fun h => by rw [HLL.out] at h; omega)), HBC.out⟩
              case measure => simp [intOf]; omega
    · obtain rfl : i = xs.length := by omega
      have HWR := Lib.hid HG.out
      have HN := Lib.hid (isort_len xs xs.length)
      go_wp2_with fail
      go_ret2
      exact ⟨_, _, by rw [HE.out, HN.out]; rfl, by rw [HE.out]; exact HWR.out.1, by simp; exact HWR.out.2, HB.out⟩

end Go.Proofs.Ytpejbmfapdocaaa
