/- The laws' marks on slices of rows: none, one, two rows of two numbers. Conditions: those that each theorem names. -/
import Derived.Test.YtnoiijcpnjgnbaaSpG
import Derived.LoopN
namespace Go.Proofs.Ytnoiijcpnjgnbaa
open Go.RowKit

set_option maxHeartbeats 1000000 in
theorem eqSS0 (w : World) : Calls Try.prog 31 #[.slice none 0 0, .slice none 0 0] w fun e w' => e = .returned (.bool true) ∧ Below w.heap.size w w' := by
  go_enter Try.func31, Try.ntmps31
  go_wp2_with fail
  refine wp_loop_rounds 1 ?_
  rw [rounds_succ]
  go_wp2_with fail
  go_ret
  exact ⟨rfl, by (repeat (first | with_reducible exact Below.refl _ _ | with_reducible assumption | ((with_reducible refine Bw.set ?_ ?_); rotate_left; focus omega) | ((with_reducible refine Bw.al ?_ ?_); rotate_left; focus (first | omega | (simp; done) | (simp; omega))) | with_reducible refine Below.drew ?_ | with_reducible refine Bw.dr ?_ _))⟩
set_option maxHeartbeats 4000000 in
theorem eqSS1 (G g G' g' : Nat) (a b : Int) (w : World) (h1 : G1 w G g a b) (h2 : G1 w G' g' a b) : Calls Try.prog 31 #[.slice (some ⟨G, 0, none⟩) 1 1, .slice (some ⟨G', 0, none⟩) 1 1] w fun e w' => e = .returned (.bool true) ∧ Below w.heap.size w w' := by
  have H1 := Lib.hid h1
  have H2 := Lib.hid h2
  clear h1 h2
  go_enter Try.func31, Try.ntmps31
  go_wp2_with fail
  refine wp_loop_rounds 2 ?_
  rw [rounds_succ]
  go_wp2_with fail
  have ca : ∀ (y : Aft w) (i : Nat), y.w.cell? ⟨G, i, none⟩ = #[Value.slice (some ⟨g, 0, none⟩) 2 2][i]? := fun y => (H1.out.below y.hb).o
  have cb : ∀ (y : Aft w) (i : Nat), y.w.cell? ⟨G', i, none⟩ = #[Value.slice (some ⟨g', 0, none⟩) 2 2][i]? := fun y => (H2.out.below y.hb).o
  have HE := Lib.hid (fun (y : Aft w) => eqInt64S_same (some ⟨g, 0, none⟩) (some ⟨g', 0, none⟩) 2 2 [a, b] y.w (by simp) (H1.out.below y.hb).r.rd (H2.out.below y.hb).r.rd)
  refine region_aft w (by kernel_rfl) (by kernel_rfl) (Below.refl _ _) ?_
  repeat (go_big_quiet_step (first | (go_at_call 14; exact aft_call (HE.out _))))
  refine wpQuiet_nil ?_
  rintro w1 ⟨⟨_, b1⟩, rfl⟩
  replace H1 := Lib.hid (H1.out.below b1)
  replace H2 := Lib.hid (H2.out.below b1)
  have bb := b1
  clear ca cb HE b1
  go_wp2_with fail
  rw [rounds_succ]
  go_wp2_with fail
  go_ret
  exact ⟨rfl, bb⟩
set_option maxHeartbeats 4000000 in
theorem eqSS2 (G g k G' g' k' : Nat) (a b c d : Int) (w : World) (h1 : G2 w G g k a b c d) (h2 : G2 w G' g' k' a b c d) : Calls Try.prog 31 #[.slice (some ⟨G, 0, none⟩) 2 2, .slice (some ⟨G', 0, none⟩) 2 2] w fun e w' => e = .returned (.bool true) ∧ Below w.heap.size w w' := by
  have H1 := Lib.hid h1
  have H2 := Lib.hid h2
  clear h1 h2
  go_enter Try.func31, Try.ntmps31
  go_wp2_with fail
  refine wp_loop_rounds 3 ?_
  rw [rounds_succ]
  go_wp2_with fail
  have ca : ∀ (y : Aft w) (i : Nat), y.w.cell? ⟨G, i, none⟩ = #[Value.slice (some ⟨g, 0, none⟩) 2 2, Value.slice (some ⟨k, 0, none⟩) 2 2][i]? := fun y => (H1.out.below y.hb).o
  have cb : ∀ (y : Aft w) (i : Nat), y.w.cell? ⟨G', i, none⟩ = #[Value.slice (some ⟨g', 0, none⟩) 2 2, Value.slice (some ⟨k', 0, none⟩) 2 2][i]? := fun y => (H2.out.below y.hb).o
  have HE := Lib.hid (fun (y : Aft w) => eqInt64S_same (some ⟨g, 0, none⟩) (some ⟨g', 0, none⟩) 2 2 [a, b] y.w (by simp) (H1.out.below y.hb).r.rd (H2.out.below y.hb).r.rd)
  refine region_aft w (by kernel_rfl) (by kernel_rfl) (Below.refl _ _) ?_
  repeat (go_big_quiet_step (first | (go_at_call 14; exact aft_call (HE.out _))))
  refine wpQuiet_nil ?_
  rintro w1 ⟨⟨_, b1⟩, rfl⟩
  replace H1 := Lib.hid (H1.out.below b1)
  replace H2 := Lib.hid (H2.out.below b1)
  have bb := b1
  clear ca cb HE b1
  go_wp2_with fail
  rw [rounds_succ]
  go_wp2_with fail
  have ca : ∀ (y : Aft w1) (i : Nat), y.w.cell? ⟨G, i, none⟩ = #[Value.slice (some ⟨g, 0, none⟩) 2 2, Value.slice (some ⟨k, 0, none⟩) 2 2][i]? := fun y => (H1.out.below y.hb).o
  have cb : ∀ (y : Aft w1) (i : Nat), y.w.cell? ⟨G', i, none⟩ = #[Value.slice (some ⟨g', 0, none⟩) 2 2, Value.slice (some ⟨k', 0, none⟩) 2 2][i]? := fun y => (H2.out.below y.hb).o
  have HE := Lib.hid (fun (y : Aft w1) => eqInt64S_same (some ⟨k, 0, none⟩) (some ⟨k', 0, none⟩) 2 2 [c, d] y.w (by simp) (H1.out.below y.hb).s.rd (H2.out.below y.hb).s.rd)
  refine region_aft w1 (by kernel_rfl) (by kernel_rfl) (Below.refl _ _) ?_
  repeat (go_big_quiet_step (first | (go_at_call 14; exact aft_call (HE.out _))))
  refine wpQuiet_nil ?_
  rintro w2 ⟨⟨_, b2⟩, rfl⟩
  replace H1 := Lib.hid (H1.out.below b2)
  replace H2 := Lib.hid (H2.out.below b2)
  replace bb := bb.trans (b2.mono bb.size)
  clear ca cb HE b2
  go_wp2_with fail
  rw [rounds_succ]
  go_wp2_with fail
  go_ret
  exact ⟨rfl, bb⟩
set_option maxHeartbeats 1000000 in
theorem markSS0 (K : Int) (w : World) : Calls Try.prog 32 #[.slice none 0 0, .int .i64 K] w fun e w' => e = .returned (.int .i64 K) ∧ w = w' := by
  go_enter Try.func32, Try.ntmps32
  go_wp2_with fail
  refine wp_loop_rounds 1 ?_
  rw [rounds_succ]
  go_wp2_with fail
  go_ret
  exact ⟨rfl, rfl⟩
theorem seq2 (K : Int) : seqI K 2 = [K, K + 1] := by simp [seqI, List.range_succ]
theorem mark2 {g : Nat} {a b K x y : Int} {w : World} (hK : 0 ≤ K ∧ K ≤ 1000) (hx : K + 1 = x) (hy : K + 2 = y) (h : Wr w (some ⟨g, 0, none⟩) (iv [a, b])) : Calls Try.prog 56 #[.slice (some ⟨g, 0, none⟩) 2 2, .int .i64 K] w fun e w' => e = .returned (.int .i64 y) ∧ Wr w' (some ⟨g, 0, none⟩) (iv [K, x]) ∧ w.grownBy w' (some g) := by
  have k := markInt64S_any (some ⟨g, 0, none⟩) 2 (iv [a, b]) K w (by simp [iv]) (by omega) h
  have l : (iv [a, b]).length = 2 := rfl
  rw [l, seq2, hx] at k
  subst hy
  exact k
theorem held2 {g : Nat} {K x y : Int} {w : World} (hK : 0 ≤ K ∧ K ≤ 1000) (hx : K + 1 = x) (hy : K + 2 = y) (h : Wr w (some ⟨g, 0, none⟩) (iv [K, x])) : Calls Try.prog 57 #[.slice (some ⟨g, 0, none⟩) 2 2, .int .i64 K] w fun e w' => e = .returned (.int .i64 y) ∧ w = w' := by
  have k := heldInt64S_any (some ⟨g, 0, none⟩) 2 2 K w (by omega) (by omega) (by rw [seq2, hx]; exact h.rd)
  subst hy
  exact k
set_option maxHeartbeats 4000000 in
theorem markSS1 (G g : Nat) (a b : Int) (w : World) (h1 : G1 w G g a b) : Calls Try.prog 32 #[.slice (some ⟨G, 0, none⟩) 1 1, .int .i64 1] w fun e w' => e = .returned (.int .i64 3) ∧ G1 w' G g 1 2 ∧ ∀ B X, Below B X w → B ≤ w.heap.size → B ≤ g → Below B X w' := by
  have H1 := Lib.hid h1
  have ho := h1.o
  clear h1
  go_enter Try.func32, Try.ntmps32
  go_wp2_with fail
  refine wp_loop_rounds 2 ?_
  rw [rounds_succ]
  go_wp2_with fail
  (with_reducible refine (mark2 (x := 2) (y := 3) (by omega) (by omega) (by omega) H1.out.r).mono ?_)
  rintro e w1 ⟨rfl, hr, hg⟩
  have H2 := Lib.hid (H1.out.mark hg hr)
  have HG := Lib.hid hg
  have HZ := Lib.hid hg.size
  clear hr hg ho
  skip
  go_wp2_with fail
  rw [rounds_succ]
  go_wp2_with fail
  go_ret
  exact ⟨rfl, H2.out, fun B X hb hB hg1 => hb.grown HG.out hB (fun x hx => by simp at hx; omega)⟩
set_option maxHeartbeats 4000000 in
theorem markSS2 (G g k : Nat) (a b c d : Int) (w : World) (h1 : G2 w G g k a b c d) : Calls Try.prog 32 #[.slice (some ⟨G, 0, none⟩) 2 2, .int .i64 1] w fun e w' => e = .returned (.int .i64 5) ∧ G2 w' G g k 1 2 3 4 ∧ ∀ B X, Below B X w → B ≤ w.heap.size → B ≤ g → B ≤ k → Below B X w' := by
  have H1 := Lib.hid h1
  have ho := h1.o
  clear h1
  go_enter Try.func32, Try.ntmps32
  go_wp2_with fail
  refine wp_loop_rounds 3 ?_
  rw [rounds_succ]
  go_wp2_with fail
  (with_reducible refine (mark2 (x := 2) (y := 3) (by omega) (by omega) (by omega) H1.out.r).mono ?_)
  rintro e w1 ⟨rfl, hr, hg⟩
  have H2 := Lib.hid (H1.out.mark1 hg hr)
  have HG := Lib.hid hg
  have HZ := Lib.hid hg.size
  clear hr hg ho
  have ho := H2.out.o
  go_wp2_with fail
  rw [rounds_succ]
  go_wp2_with fail
  (with_reducible refine (mark2 (x := 4) (y := 5) (by omega) (by omega) (by omega) H2.out.s).mono ?_)
  rintro e w2 ⟨rfl, hr, hg⟩
  have H3 := Lib.hid (H2.out.mark2 hg hr)
  have HG2 := Lib.hid hg
  clear hr hg ho
  go_wp2_with fail
  rw [rounds_succ]
  go_wp2_with fail
  go_ret
  exact ⟨rfl, H3.out, fun B X hb hB hg1 hk1 => (hb.grown HG.out hB (fun x hx => by simp at hx; omega)).grown HG2.out (Nat.le_trans hB HZ.out) (fun x hx => by simp at hx; omega)⟩
set_option maxHeartbeats 1000000 in
theorem heldSS0 (K : Int) (w : World) : Calls Try.prog 33 #[.slice none 0 0, .int .i64 K] w fun e w' => e = .returned (.int .i64 K) ∧ w = w' := by
  go_enter Try.func33, Try.ntmps33
  go_wp2_with fail
  refine wp_loop_rounds 1 ?_
  rw [rounds_succ]
  go_wp2_with fail
  go_ret
  exact ⟨rfl, rfl⟩
set_option maxHeartbeats 4000000 in
theorem heldSS1 (G g : Nat) (w : World) (h1 : G1 w G g 1 2) : Calls Try.prog 33 #[.slice (some ⟨G, 0, none⟩) 1 1, .int .i64 1] w fun e w' => e = .returned (.int .i64 3) ∧ w = w' := by
  have H1 := Lib.hid h1
  have ho := h1.o
  clear h1
  go_enter Try.func33, Try.ntmps33
  go_wp2_with fail
  refine wp_loop_rounds 2 ?_
  rw [rounds_succ]
  go_wp2_with fail
  (with_reducible refine (held2 (x := 2) (y := 3) (by omega) (by omega) (by omega) H1.out.r).mono ?_)
  rintro e w1 ⟨rfl, rfl⟩
  go_wp2_with fail
  rw [rounds_succ]
  go_wp2_with fail
  go_ret
  exact ⟨rfl, rfl⟩
set_option maxHeartbeats 4000000 in
theorem heldSS2 (G g k : Nat) (w : World) (h1 : G2 w G g k 1 2 3 4) : Calls Try.prog 33 #[.slice (some ⟨G, 0, none⟩) 2 2, .int .i64 1] w fun e w' => e = .returned (.int .i64 5) ∧ w = w' := by
  have H1 := Lib.hid h1
  have ho := h1.o
  clear h1
  go_enter Try.func33, Try.ntmps33
  go_wp2_with fail
  refine wp_loop_rounds 3 ?_
  rw [rounds_succ]
  go_wp2_with fail
  (with_reducible refine (held2 (x := 2) (y := 3) (by omega) (by omega) (by omega) H1.out.r).mono ?_)
  rintro e w1 ⟨rfl, rfl⟩
  go_wp2_with fail
  rw [rounds_succ]
  go_wp2_with fail
  (with_reducible refine (held2 (x := 4) (y := 5) (by omega) (by omega) (by omega) H1.out.s).mono ?_)
  rintro e w2 ⟨rfl, rfl⟩
  go_wp2_with fail
  rw [rounds_succ]
  go_wp2_with fail
  go_ret
  exact ⟨rfl, rfl⟩

end Go.Proofs.Ytnoiijcpnjgnbaa
