/- Contracts of the reference's table and cosine. Conditions: those that each theorem names. -/
import Derived.Test.YtjfhhdplgacnhaaAng
import Derived.Deep.AppendLies
import Derived.Deep.RegionLaw
namespace Go.Proofs.Ytjfhhdplgacnhaa
open Go.RowKit

theorem Try.infoI : (Try.prog.info? 2).map (fun i => (i.zero, i.size, i.bytes)) = some (some (.int .i64 0), 1, 8) := by kernel_rfl
/-- The first n numbers of the table as cells. -/
def cosCells (n : Nat) : List Value := (List.range n).map fun i => Value.int .i64 (cosR i)
theorem cosCells_len (n : Nat) : (cosCells n).length = n := by simp [cosCells]
theorem cosCells_get {n i : Nat} (h : i < n) : (cosCells n)[i]? = some (.int .i64 (cosR i)) := by simp [cosCells, h]
theorem cosCells_succ (n : Nat) : cosCells n ++ [.int .i64 (cosR n)] = cosCells (n + 1) := by simp [cosCells, List.range_succ]
/-- What a call of the table leaves. -/
def TabPost (w : World) (e : Ending) (w' : World) : Prop :=
  ∃ g cap : Nat, e = .returned (.slice (some ⟨g, 0, none⟩) 181 cap) ∧ (∀ i : Nat, i < 181 → w'.cell? ⟨g, i, none⟩ = some (.int .i64 (cosQ i))) ∧ Below w.heap.size w w'

set_option maxRecDepth 100000 in
set_option maxHeartbeats 2000000 in
theorem spec_Table (w : World) : Calls Try.prog 54 #[] w (TabPost w) := by
  obtain ⟨i0, hi0, hz0, hz1, hz2⟩ := info_parts Try.infoI
  go_enter Try.func54, Try.ntmps54
  go_wp2_with fail
  go_loopw [1, 2] (fun s1 s2 wr => ∃ i g cap : Nat, i ≤ 178 ∧ s2 = .int .i64 ((i : Int) + 2) ∧ s1 = .slice (some ⟨g, 0, none⟩) (i + 2) cap ∧ wr.ownsRow w.heap.size 2 1 (.slice (some ⟨g, 0, none⟩) (i + 2) cap) (i + 2) (cosCells (i + 2)) ∧ Below w.heap.size w wr) (fun _ s2 _ => 182 - (intOf s2).toNat)
  case atStart =>
    refine ⟨0, w.heap.size, 2, by omega, rfl, rfl, ⟨rfl, .inr ⟨w.heap.size, 2, _, rfl, Nat.le_refl _, heap_alloc_new _ _, by omega, by unfold maxLen; omega, rfl, rfl⟩⟩, by (repeat (first | with_reducible exact Below.refl _ _ | with_reducible assumption | ((with_reducible refine Bw.set ?_ ?_); rotate_left; focus omega) | ((with_reducible refine Bw.al ?_ ?_); rotate_left; focus (first | omega | (simp; done) | (simp; omega))) | with_reducible refine Below.drew ?_ | with_reducible refine Bw.dr ?_ _))⟩
  case round =>
    obtain ⟨i, g, cap, hi, rfl, rfl, hown, hb⟩ := hrel
    have hz := hb.size
    have c1 : wr.cell? ⟨g, i + 1, none⟩ = some (.int .i64 (cosR (i + 1))) := by rw [hown.cellAt (i + 1) (by omega), cosCells_get (by omega)]
    have c2 : wr.cell? ⟨g, i, none⟩ = some (.int .i64 (cosR i)) := by rw [hown.cellAt i (by omega), cosCells_get (by omega)]
    have b1 := cosR_bd (k := i) (by omega)
    have b2 := cosR_bd (k := i + 1) (by omega)
    have b3 := cosR_bd (k := i + 2) (by omega)
    by_cases hlt : i < 178
    · have HR := Lib.hid (cosR_two i)
      have b4 : -4000000001 ≤ near (1999923846 * cosR (i + 1)) 1000000000 ∧ near (1999923846 * cosR (i + 1)) 1000000000 ≤ 4000000001 := near_bd9 ⟨by omega, by omega⟩
      have e1 : IntKind.i64.wrap ((i : Int) + 2 - 1) = (i : Int) + 1 := by rw [IntWalk.i64_in _ (by omega)]; omega
      have e2 : IntKind.i64.wrap ((i : Int) + 2 - 2) = (i : Int) := by rw [IntWalk.i64_in _ (by omega)]; omega
      have e3 : IntKind.i64.wrap ((i : Int) + 1) = (i : Int) + 1 := IntWalk.i64_in _ (by omega)
      have e4 : IntKind.i64.wrap (i : Int) = (i : Int) := IntWalk.i64_in _ (by omega)
      have e5 : ((i : Int) + 1).toNat = i + 1 := by omega
      have e6 : 0 ≤ (i : Int) + 1 := by omega
      have e7 : (i : Int) < (i : Int) + 2 := by omega
      have e8 : (i : Int) + 1 < (i : Int) + 2 := by omega
      have e9 : IntKind.i64.wrap (1999923846 * cosR (i + 1)) = 1999923846 * cosR (i + 1) := IntWalk.i64_in _ (by omega)
      have e10 : IntKind.i64.wrap (near (1999923846 * cosR (i + 1)) 1000000000 - cosR i) = near (1999923846 * cosR (i + 1)) 1000000000 - cosR i := IntWalk.i64_in _ (by omega)
      go_wp2_with fail
      go_region_law (first | (refine step_append_lies _ (by rfl) _ _ _ (by rfl) w.heap.size 2 i0 _ 1 8 Try.underlying45 hi0 hz0 hz1 hz2 rfl (by omega) (.slice (some ⟨g, 0, none⟩) (i + 2) cap) (i + 2) (cosCells (i + 2)) (by rfl) ((hown.alloc _).drew) ⟨wr.heap.size, 0, none⟩ 1 1 [.int .i64 (cosR (i + 2))] (by rfl) (by rfl) (by rw [HR.out]; exact World.news_of_block (heap_alloc_new wr _)) (by simp [Value.oneCell']) (by omega) (by unfold maxLen; omega) (by omega) (by simp; omega) (wr.heap.size + 1) (by simp) ?_; intro g' cap' w1 hown1 hgrow hat hlt') | (go_simp; go_at_call 41; refine (spec_Nearest _ _ (by omega) (by omega) (by omega) (by omega) _).mono ?_; rintro e w' ⟨rfl, rfl⟩))
      all_goals
        go_wp2_with fail
        go_roundw
        case rel =>
          refine ⟨i + 1, g', cap', by omega, by go_num, rfl, by rw [← cosCells_succ]; exact hown1, ?_⟩
          refine Below.grown (by (repeat (first | with_reducible exact Below.refl _ _ | with_reducible assumption | ((with_reducible refine Bw.set ?_ ?_); rotate_left; focus omega) | ((with_reducible refine Bw.al ?_ ?_); rotate_left; focus (first | omega | (simp; done) | (simp; omega))) | with_reducible refine Below.drew ?_ | with_reducible refine Bw.dr ?_ _))) hgrow (by simp; omega) (fun k hk => ?_)
          simp [Value.ownBlock] at hk
          rcases hown.2 with ⟨h', _⟩ | ⟨g2, _, _, h', hg2, _⟩
          · cases h'
          · simp only [Value.slice.injEq, Option.some.injEq, Addr.mk.injEq, and_true, true_and] at h'
            omega
        case measure => simp [intOf]; omega
    · have hi2 : i = 178 := by omega
      subst hi2
      go_wp2_with (at_builtin; refine wpList_append_lies _ rfl _ _ _ rfl w.heap.size 2 i0 _ 1 8 Try.underlying45 hi0 hz0 hz1 hz2 rfl (by omega) (.slice (some ⟨g, 0, none⟩) 180 cap) 180 (cosCells 180) rfl (hown.alloc _) ⟨wr.heap.size, 0, none⟩ 1 1 [.int .i64 0] rfl rfl (World.news_of_block (heap_alloc_new wr _)) (by simp [Value.oneCell']) (by omega) (by unfold maxLen; omega) (by omega) (by simp; omega) (wr.heap.size + 1) (by simp) ?_; intro g' cap' w1 hown1 hgrow hat hlt')
      go_ret
      refine ⟨g', cap', rfl, fun j hj => ?_, ?_⟩
      · rw [hown1.cellAt j (by omega)]
        by_cases hj2 : j = 180
        · subst hj2; rfl
        · rw [List.getElem?_append_left (by rw [cosCells_len]; omega), cosCells_get (by omega), cosQ, if_neg (by omega), Int.toNat_natCast]
      · refine Below.grown (by (repeat (first | with_reducible exact Below.refl _ _ | with_reducible assumption | ((with_reducible refine Bw.set ?_ ?_); rotate_left; focus omega) | ((with_reducible refine Bw.al ?_ ?_); rotate_left; focus (first | omega | (simp; done) | (simp; omega))) | with_reducible refine Below.drew ?_ | with_reducible refine Bw.dr ?_ _))) hgrow (by simp; omega) (fun k hk => ?_)
        simp [Value.ownBlock] at hk
        rcases hown.2 with ⟨h', _⟩ | ⟨g2, _, _, h', hg2, _⟩
        · cases h'
        · simp only [Value.slice.injEq, Option.some.injEq, Addr.mk.injEq, and_true, true_and] at h'
          omega
theorem tab_cell {w' : World} {g : Nat} (h : ∀ i : Nat, i < 181 → w'.cell? ⟨g, i, none⟩ = some (.int .i64 (cosQ i))) {r : Int} (h0 : 0 ≤ r) (h1 : r ≤ 180) : w'.cell? ⟨g, r.toNat, none⟩ = some (.int .i64 (cosQ r)) := by
  rw [h r.toNat (by omega), show ((r.toNat : Nat) : Int) = r by omega]
set_option maxHeartbeats 1000000 in
theorem spec_Cosine (n : Int) (h0 : -9000000000 ≤ n) (h1 : n ≤ 9000000000) (w : World) :
    Calls Try.prog 32 #[.int .i64 n] w fun e w' => e = .returned (.int .i64 (cosI n)) ∧ Below w.heap.size w w' := by
  have r0 := Int.emod_nonneg n (show (720 : Int) ≠ 0 by omega)
  have r1 := Int.emod_lt_of_pos n (show (0 : Int) < 720 by omega)
  obtain ⟨r, hr⟩ : ∃ r, n % 720 = r := ⟨_, rfl⟩
  rw [hr] at r0 r1
  have HR := Lib.hid hr
  clear hr
  rcases Int.lt_or_le 180 r with h2 | h2
  · rcases Int.lt_or_le 360 r with h3 | h3
    · rcases Int.lt_or_le r 540 with h4 | h4
      · have hb := @cosQ_bd (360 - (720 - r)) (by omega)
        go_enter Try.func32, Try.ntmps32
        go_wp2_with fail
        refine (spec_Mod _ _ (by omega) (by omega) (by omega) (by omega) _).mono ?_
        rintro e w1 ⟨rfl, rfl⟩
        rw [HR.out]
        go_wp2_with fail
        refine (spec_Table _).mono ?_
        rintro e w1 ⟨g, cap, rfl, hc, hb1⟩
        have c1 := tab_cell hc (r := 360 - (720 - r)) (by omega) (by omega)
        clear hc
        go_wp2_with fail
        go_ret
        exact ⟨reti (cosI_3 HR.out h3 h4).symm, hb1⟩
      · go_enter Try.func32, Try.ntmps32
        go_wp2_with fail
        refine (spec_Mod _ _ (by omega) (by omega) (by omega) (by omega) _).mono ?_
        rintro e w1 ⟨rfl, rfl⟩
        rw [HR.out]
        go_wp2_with fail
        refine (spec_Table _).mono ?_
        rintro e w1 ⟨g, cap, rfl, hc, hb1⟩
        have c1 := tab_cell hc (r := 720 - r) (by omega) (by omega)
        clear hc
        go_wp2_with fail
        go_ret
        exact ⟨reti (cosI_4 HR.out h4).symm, hb1⟩
    · have hb := @cosQ_bd (360 - r) (by omega)
      go_enter Try.func32, Try.ntmps32
      go_wp2_with fail
      refine (spec_Mod _ _ (by omega) (by omega) (by omega) (by omega) _).mono ?_
      rintro e w1 ⟨rfl, rfl⟩
      rw [HR.out]
      go_wp2_with fail
      refine (spec_Table _).mono ?_
      rintro e w1 ⟨g, cap, rfl, hc, hb1⟩
      have c1 := tab_cell hc (r := 360 - r) (by omega) (by omega)
      clear hc
      go_wp2_with fail
      go_ret
      exact ⟨reti (cosI_2 HR.out h2 h3).symm, hb1⟩
  · go_enter Try.func32, Try.ntmps32
    go_wp2_with fail
    refine (spec_Mod _ _ (by omega) (by omega) (by omega) (by omega) _).mono ?_
    rintro e w1 ⟨rfl, rfl⟩
    rw [HR.out]
    go_wp2_with fail
    refine (spec_Table _).mono ?_
    rintro e w1 ⟨g, cap, rfl, hc, hb1⟩
    have c1 := tab_cell hc (r := r) (by omega) (by omega)
    clear hc
    go_wp2_with fail
    go_ret
    exact ⟨reti (cosI_1 HR.out h2).symm, hb1⟩
set_option maxHeartbeats 1000000 in
theorem spec_Square (a b n : Int) (ha : 0 ≤ a ∧ a ≤ 10000) (hb : 0 ≤ b ∧ b ≤ 10000) (h0 : -9000000000 ≤ n) (h1 : n ≤ 9000000000) (w : World) :
    Calls Try.prog 47 #[.int .i64 a, .int .i64 b, .int .i64 n] w fun e w' => e = .returned (.int .i64 (sqI a b n)) ∧ Below w.heap.size w w' := by
  obtain ⟨k1, k2, k3, k4, k5⟩ := sq_terms (n := n) ha hb
  have k6 := cosI_bd n
  go_enter Try.func47, Try.ntmps47
  go_wp2_with fail
  refine (spec_Cosine _ h0 h1 _).mono ?_
  rintro e w1 ⟨rfl, hb1⟩
  go_wp2_with fail
  refine (spec_Nearest _ _ (by omega) (by omega) (by omega) (by omega) _).mono ?_
  rintro e w1 ⟨rfl, rfl⟩
  go_wp2_with fail
  go_ret
  exact ⟨rfl, hb1⟩

end Go.Proofs.Ytjfhhdplgacnhaa
