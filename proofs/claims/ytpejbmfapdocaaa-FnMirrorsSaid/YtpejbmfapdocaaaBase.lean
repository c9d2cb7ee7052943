/- Contracts of the smallest functions, and small facts on memory. Conditions: those that each theorem names. -/
import Derived.Test.YtpejbmfapdocaaaRows
import Derived.Test.YtpejbmfapdocaaaMath
import Derived.WalkKit
import Derived.WalkSpells
import Derived.WalkLawsBesides
import Derived.Lib.Hide
import Derived.BigQuiet
import Derived.Deep.QuietTactic
import Derived.Deep.RegionHeld3
import Derived.Deep.DeepCutAuto
namespace Go.Proofs.Ytpejbmfapdocaaa
open Go.RowKit

/-- A block's cells, known whole, in a world of which 'Below' is known. -/
theorem cell_kept {B : Nat} {X w1 : World} (hb : Below B X w1) {g : Nat} (hg : g < B) {cs : Array Value} (h : ∀ i, X.cell? ⟨g, i, none⟩ = cs[i]?) : ∀ i, w1.cell? ⟨g, i, none⟩ = cs[i]? :=
  fun i => (hb.cell (p := ⟨g, i, none⟩) hg).trans (h i)
theorem frz_kept {B : Nat} {X w1 : World} (hb : Below B X w1) {g : Nat} (hg : g < B) (h : ∀ i, X.frozen? ⟨g, i, none⟩ = false) : ∀ i, w1.frozen? ⟨g, i, none⟩ = false :=
  fun i => (hb.frozen (p := ⟨g, i, none⟩) hg).trans (h i)
theorem cell_new (w : World) (cs : Array Value) (t : TypeId) (i : Nat) : (w.alloc (.cells cs t)).cell? ⟨w.heap.size, i, none⟩ = cs[i]? :=
  cell_of_row _ _ i cs t (0, 0) (heap_alloc_new w _)
theorem frz_new (w : World) (cs : Array Value) (t : TypeId) (i : Nat) : (w.alloc (.cells cs t)).frozen? ⟨w.heap.size, i, none⟩ = false := World.frozen?_alloc_new w cs t i
theorem cell_alloc {w : World} {g : Nat} {cs : Array Value} (h : ∀ i, w.cell? ⟨g, i, none⟩ = cs[i]?) (hg : g < w.heap.size) (o : Obj) : ∀ i, (w.alloc o).cell? ⟨g, i, none⟩ = cs[i]? :=
  fun i => (World.cell?_alloc_lt w o ⟨g, i, none⟩ hg).trans (h i)
theorem frz_alloc {w : World} {g : Nat} (h : ∀ i, w.frozen? ⟨g, i, none⟩ = false) (hg : g < w.heap.size) (o : Obj) : ∀ i, (w.alloc o).frozen? ⟨g, i, none⟩ = false :=
  fun i => (World.frozen?_of_block (w := w) (Below.heap_alloc w o g hg)).trans (h i)

theorem reti {k : IntKind} {a b : Int} (h : a = b) : Ending.returned (.int k a) = .returned (.int k b) := by rw [h]
theorem retb {a b : Bool} (h : a = b) : Ending.returned (.bool a) = .returned (.bool b) := by rw [h]
theorem Bw.set {B : Nat} {a w : World} {g o : Nat} {u : Value} (h : Below B a w) (hg : B ≤ g) : Below B a (w.setCell ⟨g, o, none⟩ u) := h.setCell (p := ⟨g, o, none⟩) hg u
theorem Bw.al {B : Nat} {a w : World} {o : Obj} (h : Below B a w) (hB : B ≤ w.heap.size) : Below B a (w.alloc o) := h.alloc hB o
theorem Bw.dr {B : Nat} {a w : World} (h : Below B a w) (n : Nat) : Below B a (w.drewN n) := ⟨h.os, h.tape, h.output, h.size, h.block⟩
theorem lt_cell {w : World} {g : Nat} {cs : Array Value} (h : ∀ i, w.cell? ⟨g, i, none⟩ = cs[i]?) (hn : 0 < cs.size) : g < w.heap.size :=
  World.block_lt_of_cell? w ⟨g, 0, none⟩ (u := cs[0]) (by rw [h 0]; simp [hn])
theorem cell_dr {w : World} {g : Nat} {cs : Array Value} (h : ∀ i, w.cell? ⟨g, i, none⟩ = cs[i]?) (n : Nat) : ∀ i, (w.drewN n).cell? ⟨g, i, none⟩ = cs[i]? := h
theorem frz_dr {w : World} {g : Nat} (h : ∀ i, w.frozen? ⟨g, i, none⟩ = false) (n : Nat) : ∀ i, (w.drewN n).frozen? ⟨g, i, none⟩ = false := h
/-- What one, two, three boxes hold behind a call that keeps what was there. -/
theorem kept1 {w w1 : World} {A : Array Value} {ta : TypeId} (hb : Below (w.alloc (.cells A ta)).heap.size (w.alloc (.cells A ta)) w1) :
    (∀ i, w1.cell? ⟨w.heap.size, i, none⟩ = A[i]?) ∧ (∀ i, w1.frozen? ⟨w.heap.size, i, none⟩ = false) ∧ w.heap.size + 1 ≤ w1.heap.size ∧ Below w.heap.size w w1 := by
  have hs := hb.size
  simp only [World.size_alloc] at hs
  exact ⟨cell_kept hb (by simp) (cell_new w _ _), frz_kept hb (by simp) (frz_new w _ _), hs, ((Below.refl _ _).alloc (Nat.le_refl _) _).trans (hb.mono (by simp))⟩
theorem kept2 {w w1 : World} {A C : Array Value} {ta tc : TypeId} (hb : Below ((w.alloc (.cells A ta)).alloc (.cells C tc)).heap.size ((w.alloc (.cells A ta)).alloc (.cells C tc)) w1) :
    (∀ i, w1.cell? ⟨w.heap.size, i, none⟩ = A[i]?) ∧ (∀ i, w1.frozen? ⟨w.heap.size, i, none⟩ = false) ∧ (∀ i, w1.cell? ⟨w.heap.size + 1, i, none⟩ = C[i]?) ∧ (∀ i, w1.frozen? ⟨w.heap.size + 1, i, none⟩ = false) ∧
    w.heap.size + 2 ≤ w1.heap.size ∧ Below w.heap.size w w1 := by
  obtain ⟨c2, f2, z2, b2⟩ := kept1 hb
  simp only [World.size_alloc] at c2 f2 z2
  exact ⟨cell_kept b2 (by simp) (cell_new w _ _), frz_kept b2 (by simp) (frz_new w _ _), c2, f2, z2, ((Below.refl _ _).alloc (Nat.le_refl _) _).trans (b2.mono (by simp))⟩
theorem kept3 {w w1 : World} {A C D : Array Value} {ta tc td : TypeId} (hb : Below (((w.alloc (.cells A ta)).alloc (.cells C tc)).alloc (.cells D td)).heap.size (((w.alloc (.cells A ta)).alloc (.cells C tc)).alloc (.cells D td)) w1) :
    (∀ i, w1.cell? ⟨w.heap.size, i, none⟩ = A[i]?) ∧ (∀ i, w1.frozen? ⟨w.heap.size, i, none⟩ = false) ∧ (∀ i, w1.cell? ⟨w.heap.size + 1, i, none⟩ = C[i]?) ∧ (∀ i, w1.frozen? ⟨w.heap.size + 1, i, none⟩ = false) ∧
    (∀ i, w1.cell? ⟨w.heap.size + 2, i, none⟩ = D[i]?) ∧ (∀ i, w1.frozen? ⟨w.heap.size + 2, i, none⟩ = false) ∧ w.heap.size + 3 ≤ w1.heap.size ∧ Below w.heap.size w w1 := by
  obtain ⟨c2, f2, c3, f3, z2, b2⟩ := kept2 hb
  simp only [World.size_alloc] at c2 f2 c3 f3 z2
  exact ⟨cell_kept b2 (by simp) (cell_new w _ _), frz_kept b2 (by simp) (frz_new w _ _), c2, f2, c3, f3, z2, ((Below.refl _ _).alloc (Nat.le_refl _) _).trans (b2.mono (by simp))⟩

theorem undrew {B : Nat} {X Y : World} (h : Below B X.drew Y) : Below B X Y := ⟨h.os, h.tape, h.output, h.size, h.block⟩
theorem two_held {X Y : World} {g1 g2 : Nat} {a b c d : Value} (c1 : ∀ i, X.cell? ⟨g1, i, none⟩ = #[a, b][i]?) (c2 : ∀ i, X.cell? ⟨g2, i, none⟩ = #[c, d][i]?) (h : Below X.heap.size X Y) :
    Y.cell? ⟨g1, 0, none⟩ = some a ∧ Y.cell? ⟨g1, 1, none⟩ = some b ∧ Y.cell? ⟨g2, 0, none⟩ = some c ∧ Y.cell? ⟨g2, 1, none⟩ = some d ∧ Below X.heap.size X Y := by
  have k1 := cell_kept h (lt_cell c1 (by simp)) c1
  have k2 := cell_kept h (lt_cell c2 (by simp)) c2
  exact ⟨by rw [k1]; rfl, by rw [k1]; rfl, by rw [k2]; rfl, by rw [k2]; rfl, h⟩
theorem cell_put {w : World} {g : Nat} {cs : Array Value} (h : ∀ i, w.cell? ⟨g, i, none⟩ = cs[i]?) (k : Nat) (v : Value) (hk : k < cs.size) : ∀ i, (w.setCell ⟨g, k, none⟩ v).cell? ⟨g, i, none⟩ = (cs.setIfInBounds k v)[i]? := by
  intro i
  by_cases e : i = k
  · subst e
    rw [World.cell?_setCell_same _ _ _ (u := cs[i]) (by rw [h i]; simp [hk])]
    simp [hk]
  · rw [World.cell?_setCell_other _ _ _ _ (by simp only [ne_eq, Addr.mk.injEq, and_true, true_and]; omega), h i, Array.getElem?_setIfInBounds_ne (by omega)]
theorem cell_far {w : World} {g g' : Nat} {cs : Array Value} (h : ∀ i, w.cell? ⟨g, i, none⟩ = cs[i]?) (hne : g' ≠ g) (k : Nat) (v : Value) : ∀ i, (w.setCell ⟨g', k, none⟩ v).cell? ⟨g, i, none⟩ = cs[i]? := fun i => by
  rw [World.cell?_setCell_other _ _ _ _ (by first | (simp; done) | simp [hne]), h i]
theorem frz_put {w : World} {g g' : Nat} (h : ∀ i, w.frozen? ⟨g, i, none⟩ = false) (k : Nat) (v : Value) : ∀ i, (w.setCell ⟨g', k, none⟩ v).frozen? ⟨g, i, none⟩ = false := fun i => by
  rw [World.frozen?_setCell, h i]
/-- A function's end, its first result a struct in a block that is known whole. -/
theorem post_cell2 {P : Program} {fn : Func} {R : Ending → World → Prop} {a : Act} {w : World} {p u : Tmp} {ty : TypeId} {g : Nat} {v : Value} (hres : fn.results = #[.cell p ty, .tmp u]) (hd : a.defers = [])
    (hp : a.tmps.getD p undef = .pointer (some ⟨g, 0, none⟩)) (hload : (loadVar ty ⟨g, 0, none⟩).run P w = .ok v w) (hR : R (.returned (.tuple #[v, a.tmps.getD u undef])) w) : bodyPost P fn R .ret a w :=
  bodyPost_ret (v := .tuple #[v, a.tmps.getD u undef]) (by rw [results_cell_tmp hres, hp]; simp [asAddr, Result.andThen, hload]) hd hR
theorem post_cell1 {P : Program} {fn : Func} {R : Ending → World → Prop} {a : Act} {w : World} {p : Tmp} {ty : TypeId} {g : Nat} {v : Value} (hres : fn.results = #[.cell p ty]) (hd : a.defers = [])
    (hp : a.tmps.getD p undef = .pointer (some ⟨g, 0, none⟩)) (hload : (loadVar ty ⟨g, 0, none⟩).run P w = .ok v w) (hR : R (.returned v) w) : bodyPost P fn R .ret a w :=
  bodyPost_ret (v := v) (by simp only [Array.getD_eq_getD_getElem?] at hp; simp [results, hres, hp, asAddr, hload]) hd hR
theorem cell_set2 {w : World} {g : Nat} {u v x y : Value} (h : ∀ i, w.cell? ⟨g, i, none⟩ = #[u, v][i]?) : ∀ i, ((w.setCell ⟨g, 0, none⟩ x).setCell ⟨g, 1, none⟩ y).cell? ⟨g, i, none⟩ = #[x, y][i]? := by
  intro i
  rcases i with _ | _ | i
  · rw [World.cell?_setCell_other _ _ _ _ (by simp), World.cell?_setCell_same _ _ _ (h 0)]; rfl
  · rw [World.cell?_setCell_same _ _ _ (u := v) (by rw [World.cell?_setCell_other _ _ _ _ (by simp), h 1]; rfl)]; rfl
  · rw [World.cell?_setCell_other _ _ _ _ (by simp), World.cell?_setCell_other _ _ _ _ (by simp), h]; rfl

/-- A world behind X: what was there is kept. The class in which a region that reads and calls is walked once. -/
structure Aft (X : World) where
  w : World
  hb : Below X.heap.size X w
instance aftNonempty (X : World) : Nonempty (Aft X) := ⟨⟨X, Below.refl _ _⟩⟩
theorem region_aft {P : Program} {id : Nat} {Q : Exit → Act → World → Prop} {a : Act} {w : World} {l : List Oper} (X : World) (hm : P.follows .mixedOrders = true) (hB : Region.lexB .any l.toArray = true) (h0 : Below X.heap.size X w)
    (h : wpQuiet P l.toArray (fun w' => ∃ y : Aft X, w' = y.w) (fun a' => ∀ w', (∃ y : Aft X, w' = y.w) → Q .normal a' w') l a) : (Code.region id l.toArray true).wp P Q a w :=
  wp_region_quiet (C := fun w' => ∃ y : Aft X, w' = y.w) hm hB ⟨⟨_, h0.drew⟩, rfl⟩ (by simpa using h)
theorem aft_call {P : Program} {f : FuncId} {args : Array Value} {X : World} {y : Aft X} {v : Value} (h : Calls P f args y.w fun e w' => e = .returned v ∧ Below y.w.heap.size y.w w') :
    Calls P f args y.w fun e w'' => e = .returned v ∧ ∃ y' : Aft X, w'' = y'.w := h.mono fun _ w'' ⟨he, hb⟩ => ⟨he, ⟨w'', y.hb.trans (hb.mono y.hb.size)⟩, rfl⟩
theorem aft_pure {P : Program} {f : FuncId} {args : Array Value} {X : World} {y : Aft X} {v : Value} (h : Calls P f args y.w fun e w' => e = .returned v ∧ y.w = w') :
    Calls P f args y.w fun e w'' => e = .returned v ∧ ∃ y' : Aft X, w'' = y'.w := h.mono fun _ _ ⟨he, hb⟩ => ⟨he, y, hb.symm⟩

set_option maxHeartbeats 400000 in
theorem impl_within (n lo hi : Int) (w : World) :
    Calls Try.prog 119 #[.int .i64 n, .int .i64 lo, .int .i64 hi] w fun e w' => e = .returned (.bool (inB n lo hi)) ∧ w = w' := by
  by_cases h1 : lo ≤ n
  all_goals by_cases h2 : n ≤ hi
  all_goals
    go_enter Try.func119, Try.ntmps119
    go_wp2
    go_ret
    simp [inB, *]
set_option maxHeartbeats 400000 in
theorem spec_In (n lo hi : Int) (w : World) :
    Calls Try.prog 124 #[.int .i64 n, .int .i64 lo, .int .i64 hi] w fun e w' => e = .returned (.bool (inB n lo hi)) ∧ w = w' := by
  by_cases h1 : lo ≤ n
  all_goals by_cases h2 : n ≤ hi
  all_goals
    go_enter Try.func124, Try.ntmps124
    go_wp2
    go_ret
    simp [inB, *]

end Go.Proofs.Ytpejbmfapdocaaa
