/- The law FnExactSortNumbers, walked: it returns true and leaves old memory alone. Condition: the slice reads as a list of numbers. -/
import Derived.Test.YthibbbjjmjaafaaSp
namespace Go.Proofs.Ythibbbjjmjaafaa
open Go.RowKit

theorem snF_len (xs : List Int) : (snF xs).1.length ≤ xs.length := by
  unfold snF
  split
  · split
    · simp
    · rw [isort_len]; omega
  · simp
theorem Wr.grown {w w1 : World} {A : Option Addr} {us : List Value} {row : Option Nat} (h : Wr w A us) (hg : w.grownBy w1 row) (hne : ∀ b, A.map Addr.block = some b → some b ≠ row) : Wr w1 A us := fun k u hu => by
  obtain ⟨g, rfl, hlt, hc, hf⟩ := h k u hu
  exact ⟨g, rfl, Nat.lt_of_lt_of_le hlt hg.size, (hg.cell_far ⟨g, k, none⟩ hlt (hne g rfl)).trans hc, (hg.frozen_far ⟨g, k, none⟩ hlt (hne g rfl)).trans hf⟩
set_option maxHeartbeats 8000000 in
theorem law_SortNumbers (A : Option Addr) (c : Nat) (xs : List Int) (w : World) (hr : Rd w w.heap.size A (iv xs)) (hm : xs.length ≤ maxLen) :
    Calls Try.prog 10 #[.slice A xs.length c] w fun e w' => e = .returned (.bool true) ∧ Below w.heap.size w w' := by
  unfold maxLen at hm
  have HR := Lib.hid hr
  clear hr
  by_cases hl : 1048576 < xs.length
  · go_enter Try.func10, Try.ntmps10
    go_wp2_with fail
    go_ret
    exact ⟨rfl, by (repeat (first | with_reducible exact Below.refl _ _ | with_reducible assumption | ((with_reducible refine Bw.set ?_ ?_); rotate_left; focus omega) | ((with_reducible refine Bw.al ?_ ?_); rotate_left; focus (first | omega | (simp; done) | (simp; omega))) | with_reducible refine Below.drew ?_ | with_reducible refine Bw.dr ?_ _))⟩
  have hn := snF_len xs
  have HI := Lib.hid (fun (A : Option Addr) (c : Nat) (w : World) => impl_SortNumbers A c xs w (by omega))
  have HS := Lib.hid (fun (A : Option Addr) (c : Nat) (w : World) => spec_SortNumbers A c xs w (by omega))
  generalize snF xs = out at *
  obtain ⟨ys, code⟩ := out
  simp only at hn
  go_enter Try.func10, Try.ntmps10
  go_wp2_with fail
  (with_reducible refine (toInt64S_any _ _ _ _ (by omega) HR.out).mono ?_)
  rintro e w1 ⟨rfl, c1, _, z1, b1⟩
  have R1 := Lib.hid (Rd.of_cells (B := w1.heap.size) c1 z1)
  have B1 := Lib.hid b1
  clear c1 b1
  go_wp2_with fail
  (with_reducible refine (HS.out _ _ _ R1.out).mono ?_)
  rintro e w2 ⟨A0, k0, rfl, hw0, _, hb2⟩
  have R0 := Lib.hid hw0.rd
  have B2 := Lib.hid (B1.out.trans (hb2.mono B1.out.size))
  clear hw0 hb2 R1
  go_wp2_with fail
  (with_reducible refine (toInt64S_any _ _ _ _ (by omega) (HR.out.now B2.out)).mono ?_)
  rintro e w3 ⟨rfl, c3, f3, z3, hb3⟩
  have WX := Lib.hid (Wr.of_cells c3 f3 z3)
  have B3 := Lib.hid (B2.out.trans (hb3.mono B2.out.size))
  have D3 := Lib.hid hb3
  have hz23 := z3
  clear c3 f3 hb3 z3
  go_wp2_with fail
  (with_reducible refine (HI.out _ _ _ WX.out.rd).mono ?_)
  rintro e w4 ⟨A1, k1, rfl, hw4, hba, hb4⟩
  have HBASE := Lib.hid hba
  have WG := Lib.hid hw4
  replace WX := Lib.hid (WX.out.below hb4)
  have B4 := Lib.hid (B3.out.trans (hb4.mono B3.out.size))
  have D4 := Lib.hid (D3.out.trans (hb4.mono D3.out.size))
  clear hw4 hba hb4
  go_wp2_with fail
  (with_reducible refine (eqInt64S_same _ _ _ _ ys _ (by omega) WG.out.rd (R0.out.now D4.out)).mono ?_)
  rintro e w5 ⟨rfl, hb5⟩
  replace WG := Lib.hid (WG.out.below hb5)
  replace WX := Lib.hid (WX.out.below hb5)
  have B5 := Lib.hid (B4.out.trans (hb5.mono B4.out.size))
  have D5 := Lib.hid (D4.out.trans (hb5.mono D4.out.size))
  clear hb5
  go_wp2_with fail
  (with_reducible refine (toInt64S_any _ _ _ _ (by omega) (HR.out.now B5.out)).mono ?_)
  rintro e w6 ⟨rfl, c6, f6, z6, hb6⟩
  have R6 := Lib.hid (Rd.of_cells (B := w6.heap.size) c6 z6)
  replace WG := Lib.hid (WG.out.below hb6)
  replace WX := Lib.hid (WX.out.below hb6)
  have B6 := Lib.hid (B5.out.trans (hb6.mono B5.out.size))
  have D6 := Lib.hid (D5.out.trans (hb6.mono D5.out.size))
  clear hb6 c6 f6 z6
  go_wp2_with fail
  (with_reducible refine (eqInt64S_same _ _ _ _ xs _ (by omega) WX.out.rd R6.out).mono ?_)
  rintro e w7 ⟨rfl, hb7⟩
  replace WG := Lib.hid (WG.out.below hb7)
  replace WX := Lib.hid (WX.out.below hb7)
  have B7 := Lib.hid (B6.out.trans (hb7.mono B6.out.size))
  have D7 := Lib.hid (D6.out.trans (hb7.mono D6.out.size))
  clear hb7 R6
  have hmx := markInt64S_any (some ⟨w2.heap.size, 0, none⟩) xs.length (iv xs) 1 w7 (by rw [iv_len]; omega) (by omega) WX.out
  rw [iv_len] at hmx
  have HMX := Lib.hid hmx
  clear hmx
  go_wp2_with fail
  (with_reducible refine HMX.out.mono ?_)
  rintro e w8 ⟨rfl, _, hg8⟩
  have B8 := Lib.hid (B7.out.grown hg8 B7.out.size (fun b hb => by simp at hb; have := B2.out.size; omega))
  have D8 := Lib.hid (D7.out.grown hg8 D7.out.size (fun b hb => by simp at hb; omega))
  replace WG := Lib.hid (WG.out.grown hg8 (fun b hb => by have := HBASE.out b hb; simp; omega))
  clear hg8 WX HMX
  go_wp2_with fail
  (with_reducible refine (eqInt64S_same _ _ _ _ ys _ (by omega) WG.out.rd (R0.out.now D8.out)).mono ?_)
  rintro e w9 ⟨rfl, hb9⟩
  replace WG := Lib.hid (WG.out.below hb9)
  have B9 := Lib.hid (B8.out.trans (hb9.mono B8.out.size))
  have D9 := Lib.hid (D8.out.trans (hb9.mono D8.out.size))
  clear hb9
  have hmg := markInt64S_any A1 k1 (iv ys) 1 w9 (by rw [iv_len]; omega) (by omega) WG.out
  rw [iv_len] at hmg
  have HMG := Lib.hid hmg
  clear hmg
  go_wp2_with fail
  (with_reducible refine HMG.out.mono ?_)
  rintro e w10 ⟨rfl, hw10, hg10⟩
  have B10 := Lib.hid (B9.out.grown hg10 B9.out.size (fun b hb => by have := HBASE.out b hb; have := B3.out.size; omega))
  have D10 := Lib.hid (D9.out.grown hg10 D9.out.size (fun b hb => by have := HBASE.out b hb; omega))
  replace WG := Lib.hid hw10
  clear hw10 hg10 HMG
  go_wp2_with fail
  (with_reducible refine (heldInt64S_any A1 k1 ys.length 1 _ (by omega) (by omega) WG.out.rd).mono ?_)
  rintro e w11 ⟨rfl, rfl⟩
  go_wp2_with fail
  (with_reducible refine (toInt64S_any _ _ _ _ (by omega) (HR.out.now B10.out)).mono ?_)
  rintro e w12 ⟨rfl, c12, _, z12, hb12⟩
  have R12 := Lib.hid (Rd.of_cells (B := w12.heap.size) c12 z12)
  replace WG := Lib.hid (WG.out.below hb12)
  have B12 := Lib.hid (B10.out.trans (hb12.mono B10.out.size))
  have D12 := Lib.hid (D10.out.trans (hb12.mono D10.out.size))
  clear hb12 c12 z12
  go_wp2_with fail
  (with_reducible refine (HI.out _ _ _ R12.out).mono ?_)
  rintro e w13 ⟨A2, k2, rfl, hw13, _, hb13⟩
  have R13 := Lib.hid hw13.rd
  replace WG := Lib.hid (WG.out.below hb13)
  have B13 := Lib.hid (B12.out.trans (hb13.mono B12.out.size))
  have D13 := Lib.hid (D12.out.trans (hb13.mono D12.out.size))
  clear hb13 hw13 R12
  go_wp2_with fail
  (with_reducible refine (eqInt64S_same _ _ _ _ ys _ (by omega) R13.out (R0.out.now D13.out)).mono ?_)
  rintro e w14 ⟨rfl, hb14⟩
  replace WG := Lib.hid (WG.out.below hb14)
  have B14 := Lib.hid (B13.out.trans (hb14.mono B13.out.size))
  clear hb14
  go_wp2_with fail
  (with_reducible refine (heldInt64S_any A1 k1 ys.length 1 _ (by omega) (by omega) WG.out.rd).mono ?_)
  rintro e w15 ⟨rfl, rfl⟩
  go_wp2_with fail
  go_ret
  exact ⟨rfl, B14.out⟩

end Go.Proofs.Ythibbbjjmjaafaa
