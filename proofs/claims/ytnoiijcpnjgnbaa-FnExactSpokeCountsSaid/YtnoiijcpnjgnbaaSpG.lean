/- Slices of two rows at most, each of two numbers; SpokeCounts of the program and the reference. No condition. -/
import Derived.Test.YtnoiijcpnjgnbaaSpC
import Derived.Test.YtnoiijcpnjgnbaaMk
namespace Go.Proofs.Ytnoiijcpnjgnbaa
open Go.RowKit

/-- One row of two numbers; two rows. -/
structure G1 (w : World) (G g : Nat) (a b : Int) : Prop where
  o : ∀ i, w.cell? ⟨G, i, none⟩ = #[Value.slice (some ⟨g, 0, none⟩) 2 2][i]?
  r : Wr w (some ⟨g, 0, none⟩) (iv [a, b])
  l1 : G < w.heap.size
  ne : G ≠ g
structure G2 (w : World) (G g k : Nat) (a b c d : Int) : Prop where
  o : ∀ i, w.cell? ⟨G, i, none⟩ = #[Value.slice (some ⟨g, 0, none⟩) 2 2, Value.slice (some ⟨k, 0, none⟩) 2 2][i]?
  r : Wr w (some ⟨g, 0, none⟩) (iv [a, b])
  s : Wr w (some ⟨k, 0, none⟩) (iv [c, d])
  l1 : G < w.heap.size
  ne : G ≠ g ∧ G ≠ k ∧ g ≠ k
theorem G1.below {w w1 : World} {G g : Nat} {a b : Int} (h : G1 w G g a b) (hb : Below w.heap.size w w1) : G1 w1 G g a b := ⟨cell_kept hb h.l1 h.o, h.r.below hb, Nat.lt_of_lt_of_le h.l1 hb.size, h.ne⟩
theorem G2.below {w w1 : World} {G g k : Nat} {a b c d : Int} (h : G2 w G g k a b c d) (hb : Below w.heap.size w w1) : G2 w1 G g k a b c d := ⟨cell_kept hb h.l1 h.o, h.r.below hb, h.s.below hb, Nat.lt_of_lt_of_le h.l1 hb.size, h.ne⟩
theorem Wr.far {w w1 : World} {g g' : Nat} {us : List Value} (h : Wr w (some ⟨g, 0, none⟩) us) (hg : w.grownBy w1 (some g')) (hne : g ≠ g') : Wr w1 (some ⟨g, 0, none⟩) us := fun k u hu => by
  obtain ⟨x, e, hlt, hc, hf⟩ := h k u hu
  injection e with e
  injection e with e
  subst e
  exact ⟨g, rfl, Nat.lt_of_lt_of_le hlt hg.size, (hg.cell_far ⟨g, k, none⟩ hlt (by simpa using hne)).trans hc, (hg.frozen_far ⟨g, k, none⟩ hlt (by simpa using hne)).trans hf⟩
theorem cell_grown {w w1 : World} {G g' : Nat} {cs : Array Value} (h : ∀ i, w.cell? ⟨G, i, none⟩ = cs[i]?) (hl : G < w.heap.size) (hg : w.grownBy w1 (some g')) (hne : G ≠ g') : ∀ i, w1.cell? ⟨G, i, none⟩ = cs[i]? :=
  fun i => (hg.cell_far ⟨G, i, none⟩ hl (by simpa using hne)).trans (h i)
theorem G1.mark {w w1 : World} {G g : Nat} {a b x y : Int} (h : G1 w G g a b) (hg : w.grownBy w1 (some g)) (hr : Wr w1 (some ⟨g, 0, none⟩) (iv [x, y])) : G1 w1 G g x y :=
  ⟨cell_grown h.o h.l1 hg h.ne, hr, Nat.lt_of_lt_of_le h.l1 hg.size, h.ne⟩
theorem G2.mark1 {w w1 : World} {G g k : Nat} {a b c d x y : Int} (h : G2 w G g k a b c d) (hg : w.grownBy w1 (some g)) (hr : Wr w1 (some ⟨g, 0, none⟩) (iv [x, y])) : G2 w1 G g k x y c d :=
  ⟨cell_grown h.o h.l1 hg h.ne.1, hr, h.s.far hg (Ne.symm h.ne.2.2), Nat.lt_of_lt_of_le h.l1 hg.size, h.ne⟩
theorem G2.mark2 {w w1 : World} {G g k : Nat} {a b c d x y : Int} (h : G2 w G g k a b c d) (hg : w.grownBy w1 (some k)) (hr : Wr w1 (some ⟨k, 0, none⟩) (iv [x, y])) : G2 w1 G g k a b x y :=
  ⟨cell_grown h.o h.l1 hg h.ne.2.1, h.r.far hg h.ne.2.2, hr, Nat.lt_of_lt_of_le h.l1 hg.size, h.ne⟩
theorem G1.new (w : World) (a b : Int) (T U : TypeId) : G1 ((w.alloc (.cells #[.int .i64 a, .int .i64 b] T)).alloc (.cells #[.slice (some ⟨w.heap.size, 0, none⟩) 2 2] U)) (w.heap.size + 1) w.heap.size a b := by
  obtain ⟨c1, f1, c2, f2, zz, _⟩ := kept2 (Below.refl ((w.alloc (.cells #[Value.int .i64 a, Value.int .i64 b] T)).alloc (.cells #[Value.slice (some ⟨w.heap.size, 0, none⟩) 2 2] U)).heap.size _)
  exact ⟨c2, Wr.of_cells c1 f1 (by omega), by omega, by omega⟩
theorem G2.new (w : World) (a b c d : Int) (T U : TypeId) : G2 (((w.alloc (.cells #[.int .i64 a, .int .i64 b] T)).alloc (.cells #[.int .i64 c, .int .i64 d] T)).alloc (.cells #[.slice (some ⟨w.heap.size, 0, none⟩) 2 2, .slice (some ⟨w.heap.size + 1, 0, none⟩) 2 2] U)) (w.heap.size + 1 + 1) w.heap.size (w.heap.size + 1) a b c d := by
  obtain ⟨c1, f1, c2, f2, c3, f3, zz, _⟩ := kept3 (Below.refl (((w.alloc (.cells #[Value.int .i64 a, Value.int .i64 b] T)).alloc (.cells #[Value.int .i64 c, Value.int .i64 d] T)).alloc (.cells #[Value.slice (some ⟨w.heap.size, 0, none⟩) 2 2, Value.slice (some ⟨w.heap.size + 1, 0, none⟩) 2 2] U)).heap.size _)
  exact ⟨c3, Wr.of_cells c1 f1 (by omega), Wr.of_cells c2 f2 (by omega), by omega, by omega, by omega, by omega⟩
/-- What SpokeCounts leaves: no row, one row, two rows. -/
def SC0 (w : World) (e : Ending) (w' : World) : Prop := e = .returned (.tuple #[.slice none 0 0, .int .i64 1]) ∧ Below w.heap.size w w'
def SC1 (w : World) (a b : Int) (e : Ending) (w' : World) : Prop := ∃ G g, e = .returned (.tuple #[.slice (some ⟨G, 0, none⟩) 1 1, .int .i64 0]) ∧ G1 w' G g a b ∧ w.heap.size ≤ G ∧ w.heap.size ≤ g ∧ Below w.heap.size w w'
def SC2 (w : World) (a b c d : Int) (e : Ending) (w' : World) : Prop := ∃ G g k, e = .returned (.tuple #[.slice (some ⟨G, 0, none⟩) 2 2, .int .i64 0]) ∧ G2 w' G g k a b c d ∧ w.heap.size ≤ G ∧ w.heap.size ≤ g ∧ w.heap.size ≤ k ∧ Below w.heap.size w w'
theorem even_holes {n : Int} (h : holesB n = true) : 2 * (n / 2) = n := by
  have := holesB_t h
  omega

set_option maxHeartbeats 1000000 in
theorem impl_SC0 (h l r lo ro rh rd rf cr : Int) (k : wheelB h l r lo ro rh rd rf cr = false) (w : World) : Calls Try.prog 30 #[.agg #[.int .i64 h, .int .i64 l, .int .i64 r, .int .i64 lo, .int .i64 ro, .int .i64 rh, .int .i64 rd, .int .i64 rf, .int .i64 cr]] w (SC0 w) := by
  have HK := Lib.hid k
  clear k
  go_enter Try.func30, Try.ntmps30
  go_wp2_with fail
  refine (impl_IsWheel _ _ _ _ _ _ _ _ _ _).mono ?_
  rintro e w1 ⟨rfl, hb1⟩
  obtain ⟨c1, f1, zz, bb⟩ := kept1 hb1
  clear hb1 f1
  rw [HK.out]
  go_wp2_with fail
  go_ret2
  exact ⟨rfl, by (repeat (first | with_reducible exact Below.refl _ _ | with_reducible assumption | ((with_reducible refine Bw.set ?_ ?_); rotate_left; focus omega) | ((with_reducible refine Bw.al ?_ ?_); rotate_left; focus (first | omega | (simp; done) | (simp; omega))) | with_reducible refine Below.drew ?_ | with_reducible refine Bw.dr ?_ _))⟩
set_option maxHeartbeats 4000000 in
theorem impl_SC1 (h l r lo ro rh rd rf cr a b : Int) (k : wheelB h l r lo ro rh rd rf cr = true) (ha : spLen h l r lo ro rh rd rf cr false = a) (hb : spLen h l r lo ro rh rd rf cr true = b) (hab : a = b) (w : World) : Calls Try.prog 30 #[.agg #[.int .i64 h, .int .i64 l, .int .i64 r, .int .i64 lo, .int .i64 ro, .int .i64 rh, .int .i64 rd, .int .i64 rf, .int .i64 cr]] w (SC1 w a h) := by
  have h0 := holes_bd (hubB_t (wheelB_t k).1).1
  have HH := Lib.hid (even_holes (hubB_t (wheelB_t k).1).1)
  have HK := Lib.hid k
  have HA := Lib.hid ha
  have HB := Lib.hid hb
  have e1 : (a == b) = true := by simp [hab]
  clear k ha hb hab
  go_enter Try.func30, Try.ntmps30
  go_wp2_with fail
  refine (impl_IsWheel _ _ _ _ _ _ _ _ _ _).mono ?_
  rintro e w1 ⟨rfl, hb1⟩
  obtain ⟨c1, f1, zz, bb⟩ := kept1 hb1
  clear hb1 f1
  rw [HK.out]
  go_upto_region 3 with fail
  have ca : ∀ (y : Aft w1) (i : Nat), y.w.cell? ⟨w.heap.size, i, none⟩ = #[Value.int .i64 h, Value.int .i64 l, Value.int .i64 r, Value.int .i64 lo, Value.int .i64 ro, Value.int .i64 rh, Value.int .i64 rd, Value.int .i64 rf, Value.int .i64 cr][i]? := fun y => cell_kept y.hb (lt_cell c1 (by simp)) c1
  refine region_aft w1 (by kernel_rfl) (by kernel_rfl) (Below.refl _ _) ?_
  repeat (go_big_quiet_step (first | (go_at_call 45; first | with_reducible exact aft_call (impl_len_b HA.out HK.out _) | with_reducible exact aft_call (impl_len_b HB.out HK.out _))))
  refine wpQuiet_nil ?_
  rintro w2 ⟨⟨_, b2⟩, rfl⟩
  replace c1 := cell_kept b2 (lt_cell c1 (by simp)) c1
  replace bb := bb.trans (b2.mono (by omega))
  replace zz : w.heap.size + 1 ≤ w2.heap.size := Nat.le_trans zz b2.size
  clear ca b2
  have ca2 : ∀ (o : Obj) (i : Nat), (w2.alloc o).cell? ⟨w.heap.size, i, none⟩ = #[Value.int .i64 h, Value.int .i64 l, Value.int .i64 r, Value.int .i64 lo, Value.int .i64 ro, Value.int .i64 rh, Value.int .i64 rd, Value.int .i64 rf, Value.int .i64 cr][i]? := fun o => cell_alloc c1 (by omega) o
  go_wp2_with fail
  go_ret2
  skip
  exact ⟨w2.heap.size + 1, w2.heap.size, rfl, G1.new _ _ _ _ _, by omega, by omega, by (repeat (first | with_reducible exact Below.refl _ _ | with_reducible assumption | ((with_reducible refine Bw.set ?_ ?_); rotate_left; focus omega) | ((with_reducible refine Bw.al ?_ ?_); rotate_left; focus (first | omega | (simp; done) | (simp; omega))) | with_reducible refine Below.drew ?_ | with_reducible refine Bw.dr ?_ _))⟩
set_option maxHeartbeats 4000000 in
theorem impl_SC2 (h l r lo ro rh rd rf cr a b : Int) (k : wheelB h l r lo ro rh rd rf cr = true) (ha : spLen h l r lo ro rh rd rf cr false = a) (hb : spLen h l r lo ro rh rd rf cr true = b) (hab : a ≠ b) (w : World) : Calls Try.prog 30 #[.agg #[.int .i64 h, .int .i64 l, .int .i64 r, .int .i64 lo, .int .i64 ro, .int .i64 rh, .int .i64 rd, .int .i64 rf, .int .i64 cr]] w (SC2 w (min a b) (h / 2) (max a b) (h / 2)) := by
  have h0 := holes_bd (hubB_t (wheelB_t k).1).1
  have HK := Lib.hid k
  have HA := Lib.hid ha
  have HB := Lib.hid hb
  have e1 : (a == b) = false := beq_eq_false_iff_ne.2 hab
  clear k ha hb
  rcases Int.lt_or_le a b with q | q
  · have HM := Lib.hid (show min a b = a by omega)
    have HX := Lib.hid (show max a b = b by omega)
    rw [HM.out, HX.out]
    clear hab
    go_enter Try.func30, Try.ntmps30
    go_wp2_with fail
    refine (impl_IsWheel _ _ _ _ _ _ _ _ _ _).mono ?_
    rintro e w1 ⟨rfl, hb1⟩
    obtain ⟨c1, f1, zz, bb⟩ := kept1 hb1
    clear hb1 f1
    rw [HK.out]
    go_upto_region 3 with fail
    have ca : ∀ (y : Aft w1) (i : Nat), y.w.cell? ⟨w.heap.size, i, none⟩ = #[Value.int .i64 h, Value.int .i64 l, Value.int .i64 r, Value.int .i64 lo, Value.int .i64 ro, Value.int .i64 rh, Value.int .i64 rd, Value.int .i64 rf, Value.int .i64 cr][i]? := fun y => cell_kept y.hb (lt_cell c1 (by simp)) c1
    refine region_aft w1 (by kernel_rfl) (by kernel_rfl) (Below.refl _ _) ?_
    repeat (go_big_quiet_step (first | (go_at_call 45; first | with_reducible exact aft_call (impl_len_b HA.out HK.out _) | with_reducible exact aft_call (impl_len_b HB.out HK.out _))))
    refine wpQuiet_nil ?_
    rintro w2 ⟨⟨_, b2⟩, rfl⟩
    replace c1 := cell_kept b2 (lt_cell c1 (by simp)) c1
    replace bb := bb.trans (b2.mono (by omega))
    replace zz : w.heap.size + 1 ≤ w2.heap.size := Nat.le_trans zz b2.size
    clear ca b2
    have ca2 : ∀ (o : Obj) (i : Nat), (w2.alloc o).cell? ⟨w.heap.size, i, none⟩ = #[Value.int .i64 h, Value.int .i64 l, Value.int .i64 r, Value.int .i64 lo, Value.int .i64 ro, Value.int .i64 rh, Value.int .i64 rd, Value.int .i64 rf, Value.int .i64 cr][i]? := fun o => cell_alloc c1 (by omega) o
    go_wp2_with fail
    go_ret2
    exact ⟨w2.heap.size + 1 + 1, w2.heap.size, w2.heap.size + 1, rfl, G2.new _ _ _ _ _ _ _, by omega, by omega, by omega, by (repeat (first | with_reducible exact Below.refl _ _ | with_reducible assumption | ((with_reducible refine Bw.set ?_ ?_); rotate_left; focus omega) | ((with_reducible refine Bw.al ?_ ?_); rotate_left; focus (first | omega | (simp; done) | (simp; omega))) | with_reducible refine Below.drew ?_ | with_reducible refine Bw.dr ?_ _))⟩
  · have q' : b < a := by omega
    have HM := Lib.hid (show min a b = b by omega)
    have HX := Lib.hid (show max a b = a by omega)
    rw [HM.out, HX.out]
    clear hab
    go_enter Try.func30, Try.ntmps30
    go_wp2_with fail
    refine (impl_IsWheel _ _ _ _ _ _ _ _ _ _).mono ?_
    rintro e w1 ⟨rfl, hb1⟩
    obtain ⟨c1, f1, zz, bb⟩ := kept1 hb1
    clear hb1 f1
    rw [HK.out]
    go_upto_region 3 with fail
    have ca : ∀ (y : Aft w1) (i : Nat), y.w.cell? ⟨w.heap.size, i, none⟩ = #[Value.int .i64 h, Value.int .i64 l, Value.int .i64 r, Value.int .i64 lo, Value.int .i64 ro, Value.int .i64 rh, Value.int .i64 rd, Value.int .i64 rf, Value.int .i64 cr][i]? := fun y => cell_kept y.hb (lt_cell c1 (by simp)) c1
    refine region_aft w1 (by kernel_rfl) (by kernel_rfl) (Below.refl _ _) ?_
    repeat (go_big_quiet_step (first | (go_at_call 45; first | with_reducible exact aft_call (impl_len_b HA.out HK.out _) | with_reducible exact aft_call (impl_len_b HB.out HK.out _))))
    refine wpQuiet_nil ?_
    rintro w2 ⟨⟨_, b2⟩, rfl⟩
    replace c1 := cell_kept b2 (lt_cell c1 (by simp)) c1
    replace bb := bb.trans (b2.mono (by omega))
    replace zz : w.heap.size + 1 ≤ w2.heap.size := Nat.le_trans zz b2.size
    clear ca b2
    have ca2 : ∀ (o : Obj) (i : Nat), (w2.alloc o).cell? ⟨w.heap.size, i, none⟩ = #[Value.int .i64 h, Value.int .i64 l, Value.int .i64 r, Value.int .i64 lo, Value.int .i64 ro, Value.int .i64 rh, Value.int .i64 rd, Value.int .i64 rf, Value.int .i64 cr][i]? := fun o => cell_alloc c1 (by omega) o
    go_wp2_with fail
    go_ret2
    exact ⟨w2.heap.size + 1 + 1, w2.heap.size, w2.heap.size + 1, rfl, G2.new _ _ _ _ _ _ _, by omega, by omega, by omega, by (repeat (first | with_reducible exact Below.refl _ _ | with_reducible assumption | ((with_reducible refine Bw.set ?_ ?_); rotate_left; focus omega) | ((with_reducible refine Bw.al ?_ ?_); rotate_left; focus (first | omega | (simp; done) | (simp; omega))) | with_reducible refine Below.drew ?_ | with_reducible refine Bw.dr ?_ _))⟩
set_option maxHeartbeats 1000000 in
theorem spec_SC0 (h l r lo ro rh rd rf cr : Int) (k : wheelB h l r lo ro rh rd rf cr = false) (w : World) : Calls Try.prog 29 #[.agg #[.int .i64 h, .int .i64 l, .int .i64 r, .int .i64 lo, .int .i64 ro, .int .i64 rh, .int .i64 rd, .int .i64 rf, .int .i64 cr]] w (SC0 w) := by
  have HK := Lib.hid k
  clear k
  go_enter Try.func29, Try.ntmps29
  go_wp2_with fail
  refine (spec_IsWheel _ _ _ _ _ _ _ _ _ _).mono ?_
  rintro e w1 ⟨rfl, hb1⟩
  obtain ⟨c1, f1, zz, bb⟩ := kept1 hb1
  clear hb1 f1
  rw [HK.out]
  go_wp2_with fail
  go_ret2
  exact ⟨rfl, by (repeat (first | with_reducible exact Below.refl _ _ | with_reducible assumption | ((with_reducible refine Bw.set ?_ ?_); rotate_left; focus omega) | ((with_reducible refine Bw.al ?_ ?_); rotate_left; focus (first | omega | (simp; done) | (simp; omega))) | with_reducible refine Below.drew ?_ | with_reducible refine Bw.dr ?_ _))⟩
set_option maxHeartbeats 4000000 in
theorem spec_SC1 (h l r lo ro rh rd rf cr a b : Int) (k : wheelB h l r lo ro rh rd rf cr = true) (ha : spLen h l r lo ro rh rd rf cr false = a) (hb : spLen h l r lo ro rh rd rf cr true = b) (hab : a = b) (w : World) : Calls Try.prog 29 #[.agg #[.int .i64 h, .int .i64 l, .int .i64 r, .int .i64 lo, .int .i64 ro, .int .i64 rh, .int .i64 rd, .int .i64 rf, .int .i64 cr]] w (SC1 w a h) := by
  have h0 := holes_bd (hubB_t (wheelB_t k).1).1
  have HH := Lib.hid (even_holes (hubB_t (wheelB_t k).1).1)
  have HK := Lib.hid k
  have HA := Lib.hid ha
  have HB := Lib.hid hb
  have e1 : (a == b) = true := by simp [hab]
  clear k ha hb hab
  go_enter Try.func29, Try.ntmps29
  go_wp2_with fail
  refine (spec_IsWheel _ _ _ _ _ _ _ _ _ _).mono ?_
  rintro e w1 ⟨rfl, hb1⟩
  obtain ⟨c1, f1, zz, bb⟩ := kept1 hb1
  clear hb1 f1
  rw [HK.out]
  go_upto_region 3 with fail
  have ca : ∀ (y : Aft w1) (i : Nat), y.w.cell? ⟨w.heap.size, i, none⟩ = #[Value.int .i64 h, Value.int .i64 l, Value.int .i64 r, Value.int .i64 lo, Value.int .i64 ro, Value.int .i64 rh, Value.int .i64 rd, Value.int .i64 rf, Value.int .i64 cr][i]? := fun y => cell_kept y.hb (lt_cell c1 (by simp)) c1
  refine region_aft w1 (by kernel_rfl) (by kernel_rfl) (Below.refl _ _) ?_
  repeat (go_big_quiet_step (first | (go_at_call 41; first | with_reducible exact aft_call (spec_len_b HA.out HK.out _) | with_reducible exact aft_call (spec_len_b HB.out HK.out _))))
  refine wpQuiet_nil ?_
  rintro w2 ⟨⟨_, b2⟩, rfl⟩
  replace c1 := cell_kept b2 (lt_cell c1 (by simp)) c1
  replace bb := bb.trans (b2.mono (by omega))
  replace zz : w.heap.size + 1 ≤ w2.heap.size := Nat.le_trans zz b2.size
  clear ca b2
  have ca2 : ∀ (o : Obj) (i : Nat), (w2.alloc o).cell? ⟨w.heap.size, i, none⟩ = #[Value.int .i64 h, Value.int .i64 l, Value.int .i64 r, Value.int .i64 lo, Value.int .i64 ro, Value.int .i64 rh, Value.int .i64 rd, Value.int .i64 rf, Value.int .i64 cr][i]? := fun o => cell_alloc c1 (by omega) o
  go_wp2_with fail
  go_ret2
  rw [HH.out]
  exact ⟨w2.heap.size + 1, w2.heap.size, rfl, G1.new _ _ _ _ _, by omega, by omega, by (repeat (first | with_reducible exact Below.refl _ _ | with_reducible assumption | ((with_reducible refine Bw.set ?_ ?_); rotate_left; focus omega) | ((with_reducible refine Bw.al ?_ ?_); rotate_left; focus (first | omega | (simp; done) | (simp; omega))) | with_reducible refine Below.drew ?_ | with_reducible refine Bw.dr ?_ _))⟩
set_option maxHeartbeats 4000000 in
theorem spec_SC2 (h l r lo ro rh rd rf cr a b : Int) (k : wheelB h l r lo ro rh rd rf cr = true) (ha : spLen h l r lo ro rh rd rf cr false = a) (hb : spLen h l r lo ro rh rd rf cr true = b) (hab : a ≠ b) (w : World) : Calls Try.prog 29 #[.agg #[.int .i64 h, .int .i64 l, .int .i64 r, .int .i64 lo, .int .i64 ro, .int .i64 rh, .int .i64 rd, .int .i64 rf, .int .i64 cr]] w (SC2 w (min a b) (h / 2) (max a b) (h / 2)) := by
  have h0 := holes_bd (hubB_t (wheelB_t k).1).1
  have HK := Lib.hid k
  have HA := Lib.hid ha
  have HB := Lib.hid hb
  have e1 : (a == b) = false := beq_eq_false_iff_ne.2 hab
  clear k ha hb
  rcases Int.lt_or_le a b with q | q
  · have HM := Lib.hid (show min a b = a by omega)
    have HX := Lib.hid (show max a b = b by omega)
    rw [HM.out, HX.out]
    clear hab
    go_enter Try.func29, Try.ntmps29
    go_wp2_with fail
    refine (spec_IsWheel _ _ _ _ _ _ _ _ _ _).mono ?_
    rintro e w1 ⟨rfl, hb1⟩
    obtain ⟨c1, f1, zz, bb⟩ := kept1 hb1
    clear hb1 f1
    rw [HK.out]
    go_upto_region 3 with fail
    have ca : ∀ (y : Aft w1) (i : Nat), y.w.cell? ⟨w.heap.size, i, none⟩ = #[Value.int .i64 h, Value.int .i64 l, Value.int .i64 r, Value.int .i64 lo, Value.int .i64 ro, Value.int .i64 rh, Value.int .i64 rd, Value.int .i64 rf, Value.int .i64 cr][i]? := fun y => cell_kept y.hb (lt_cell c1 (by simp)) c1
    refine region_aft w1 (by kernel_rfl) (by kernel_rfl) (Below.refl _ _) ?_
    repeat (go_big_quiet_step (first | (go_at_call 41; first | with_reducible exact aft_call (spec_len_b HA.out HK.out _) | with_reducible exact aft_call (spec_len_b HB.out HK.out _))))
    refine wpQuiet_nil ?_
    rintro w2 ⟨⟨_, b2⟩, rfl⟩
    replace c1 := cell_kept b2 (lt_cell c1 (by simp)) c1
    replace bb := bb.trans (b2.mono (by omega))
    replace zz : w.heap.size + 1 ≤ w2.heap.size := Nat.le_trans zz b2.size
    clear ca b2
    have ca2 : ∀ (o : Obj) (i : Nat), (w2.alloc o).cell? ⟨w.heap.size, i, none⟩ = #[Value.int .i64 h, Value.int .i64 l, Value.int .i64 r, Value.int .i64 lo, Value.int .i64 ro, Value.int .i64 rh, Value.int .i64 rd, Value.int .i64 rf, Value.int .i64 cr][i]? := fun o => cell_alloc c1 (by omega) o
    go_wp2_with fail
    go_ret2
    exact ⟨w2.heap.size + 1 + 1, w2.heap.size, w2.heap.size + 1, rfl, G2.new _ _ _ _ _ _ _, by omega, by omega, by omega, by (repeat (first | with_reducible exact Below.refl _ _ | with_reducible assumption | ((with_reducible refine Bw.set ?_ ?_); rotate_left; focus omega) | ((with_reducible refine Bw.al ?_ ?_); rotate_left; focus (first | omega | (simp; done) | (simp; omega))) | with_reducible refine Below.drew ?_ | with_reducible refine Bw.dr ?_ _))⟩
  · have q' : b < a := by omega
    have HM := Lib.hid (show min a b = b by omega)
    have HX := Lib.hid (show max a b = a by omega)
    rw [HM.out, HX.out]
    clear hab
    go_enter Try.func29, Try.ntmps29
    go_wp2_with fail
    refine (spec_IsWheel _ _ _ _ _ _ _ _ _ _).mono ?_
    rintro e w1 ⟨rfl, hb1⟩
    obtain ⟨c1, f1, zz, bb⟩ := kept1 hb1
    clear hb1 f1
    rw [HK.out]
    go_upto_region 3 with fail
    have ca : ∀ (y : Aft w1) (i : Nat), y.w.cell? ⟨w.heap.size, i, none⟩ = #[Value.int .i64 h, Value.int .i64 l, Value.int .i64 r, Value.int .i64 lo, Value.int .i64 ro, Value.int .i64 rh, Value.int .i64 rd, Value.int .i64 rf, Value.int .i64 cr][i]? := fun y => cell_kept y.hb (lt_cell c1 (by simp)) c1
    refine region_aft w1 (by kernel_rfl) (by kernel_rfl) (Below.refl _ _) ?_
    repeat (go_big_quiet_step (first | (go_at_call 41; first | with_reducible exact aft_call (spec_len_b HA.out HK.out _) | with_reducible exact aft_call (spec_len_b HB.out HK.out _))))
    refine wpQuiet_nil ?_
    rintro w2 ⟨⟨_, b2⟩, rfl⟩
    replace c1 := cell_kept b2 (lt_cell c1 (by simp)) c1
    replace bb := bb.trans (b2.mono (by omega))
    replace zz : w.heap.size + 1 ≤ w2.heap.size := Nat.le_trans zz b2.size
    clear ca b2
    have ca2 : ∀ (o : Obj) (i : Nat), (w2.alloc o).cell? ⟨w.heap.size, i, none⟩ = #[Value.int .i64 h, Value.int .i64 l, Value.int .i64 r, Value.int .i64 lo, Value.int .i64 ro, Value.int .i64 rh, Value.int .i64 rd, Value.int .i64 rf, Value.int .i64 cr][i]? := fun o => cell_alloc c1 (by omega) o
    go_wp2_with fail
    go_ret2
    exact ⟨w2.heap.size + 1 + 1, w2.heap.size, w2.heap.size + 1, rfl, G2.new _ _ _ _ _ _ _, by omega, by omega, by omega, by (repeat (first | with_reducible exact Below.refl _ _ | with_reducible assumption | ((with_reducible refine Bw.set ?_ ?_); rotate_left; focus omega) | ((with_reducible refine Bw.al ?_ ?_); rotate_left; focus (first | omega | (simp; done) | (simp; omega))) | with_reducible refine Below.drew ?_ | with_reducible refine Bw.dr ?_ _))⟩

end Go.Proofs.Ytnoiijcpnjgnbaa
