/- The source of the draws: numbers handed out. Conditions: those that each theorem names. -/
import Derived.Test.YtpejbmfapdocaaaSl
import Derived.Deep.AppendLies
import Derived.OwnWalk
namespace Go.Proofs.Ytpejbmfapdocaaa
open Go.RowKit

/-! ### Worlds in which block g alone was written -/
theorem Gr.refl (w : World) (g : Nat) : w.grownBy w (some g) := ⟨rfl, rfl, rfl, Nat.le_refl _, fun _ _ _ => rfl⟩
theorem Gr.tr {a b c : World} {g : Nat} (h : a.grownBy b (some g)) (k : b.grownBy c (some g)) : a.grownBy c (some g) :=
  ⟨k.os.trans h.os, k.tape.trans h.tape, k.output.trans h.output, Nat.le_trans h.size k.size, fun i hi hne => (k.block i (Nat.lt_of_lt_of_le hi h.size) hne).trans (h.block i hi hne)⟩
theorem Gr.al {a w : World} {g : Nat} (h : a.grownBy w (some g)) (o : Obj) : a.grownBy (w.alloc o) (some g) :=
  ⟨h.os, h.tape, h.output, Nat.le_trans h.size (by simp), fun i hi hne => (Below.heap_alloc w o i (Nat.lt_of_lt_of_le hi h.size)).trans (h.block i hi hne)⟩
theorem Gr.dr {a w : World} {g : Nat} (h : a.grownBy w (some g)) (n : Nat) : a.grownBy (w.drewN n) (some g) := ⟨h.os, h.tape, h.output, h.size, h.block⟩
theorem Gr.drw {a w : World} {g : Nat} (h : a.grownBy w (some g)) : a.grownBy w.drew (some g) := ⟨h.os, h.tape, h.output, h.size, h.block⟩
theorem Gr.un {a w : World} {g : Nat} (h : a.drew.grownBy w (some g)) : a.grownBy w (some g) := ⟨h.os, h.tape, h.output, h.size, h.block⟩
theorem Gr.st {a w : World} {g : Nat} (h : a.grownBy w (some g)) (o : Nat) (u : Value) : a.grownBy (w.setCell ⟨g, o, none⟩ u) (some g) :=
  ⟨h.os, h.tape, h.output, by simpa [World.setCell] using h.size, fun i hi hne => (Below.heap_setCell w ⟨g, o, none⟩ u i (by rintro rfl; exact hne rfl)).trans (h.block i hi hne)⟩
theorem Gr.new {a w : World} {g b : Nat} (h : a.grownBy w (some g)) (hb : a.heap.size ≤ b) (o : Nat) (u : Value) : a.grownBy (w.setCell ⟨b, o, none⟩ u) (some g) :=
  ⟨h.os, h.tape, h.output, by simpa [World.setCell] using h.size, fun i hi hne => (Below.heap_setCell w ⟨b, o, none⟩ u i (by show i ≠ b; omega)).trans (h.block i hi hne)⟩
theorem Gr.bw {a w w1 : World} {g : Nat} (h : a.grownBy w (some g)) (hb : Below w.heap.size w w1) : a.grownBy w1 (some g) :=
  Gr.tr h ⟨hb.os, hb.tape, hb.output, hb.size, fun i hi _ => hb.block i hi⟩
/-- Below a block at or below g all is kept. -/
theorem Gr.below {a w w1 : World} {g B : Nat} (hb : Below B a w) (h : w.grownBy w1 (some g)) (hB : B ≤ w.heap.size) (hg : B ≤ g) : Below B a w1 :=
  hb.grown h hB (fun k hk => by cases hk; exact hg)
theorem cell_gr {w w1 : World} {g b : Nat} {cs : Array Value} (h : ∀ i, w.cell? ⟨b, i, none⟩ = cs[i]?) (hn : 0 < cs.size) (hne : b ≠ g) (k : w.grownBy w1 (some g)) : ∀ i, w1.cell? ⟨b, i, none⟩ = cs[i]? :=
  fun i => (World.cell?_of_block (a := ⟨b, i, none⟩) (k.block b (lt_cell h hn) (by simpa using hne))).trans (h i)
theorem frz_gr {w w1 : World} {g b : Nat} (h : ∀ i, w.frozen? ⟨b, i, none⟩ = false) (hb : b < w.heap.size) (hne : b ≠ g) (k : w.grownBy w1 (some g)) : ∀ i, w1.frozen? ⟨b, i, none⟩ = false :=
  fun i => (World.frozen?_of_block (a := ⟨b, i, none⟩) (k.block b hb (by simpa using hne))).trans (h i)
theorem Rd.gr {w w1 : World} {B g : Nat} {A : Option Addr} {us : List Value} (h : Rd w B A us) (k : w.grownBy w1 (some g)) (hB : B ≤ g) (hz : B ≤ w.heap.size) : Rd w1 B A us := fun j u hu => by
  obtain ⟨ad, e, hlt, hc⟩ := h j u hu
  exact ⟨ad, e, hlt, (World.cell?_of_block (a := ad.add j) (by rw [addBlock]; exact k.block _ (by omega) (by simp; omega))).trans hc⟩

theorem put20 {w : World} {g : Nat} {u v : Value} (h : ∀ i, w.cell? ⟨g, i, none⟩ = #[u, v][i]?) (x : Value) : ∀ i, (w.setCell ⟨g, 0, none⟩ x).cell? ⟨g, i, none⟩ = #[x, v][i]? := fun i => by
  have := cell_put h 0 x (by simp) i
  simpa using this
theorem put21 {w : World} {g : Nat} {u v : Value} (h : ∀ i, w.cell? ⟨g, i, none⟩ = #[u, v][i]?) (x : Value) : ∀ i, (w.setCell ⟨g, 1, none⟩ x).cell? ⟨g, i, none⟩ = #[u, x][i]? := fun i => by
  have := cell_put h 1 x (by simp) i
  simpa using this

/-! ### The source -/
def bv (us : List Int) : List Value := us.map (Value.int .u8)
theorem bv_get {us : List Int} {k : Nat} (h : k < us.length) : (bv us)[k]? = some (.int .u8 (us.getD k 0)) := by simp [bv, h]
theorem bv_len (us : List Int) : (bv us).length = us.length := by simp [bv]
theorem Rd.byt {w : World} {B : Nat} {A : Option Addr} {us : List Int} (h : Rd w B A (bv us)) {k : Nat} (hk : k < us.length) : ∃ ad, A = some ad ∧ w.cell? (ad.add k) = some (.int .u8 (us.getD k 0)) := by
  obtain ⟨ad, e, _, hc⟩ := h k _ (bv_get hk)
  exact ⟨ad, e, hc⟩
/-- What is known of a code. -/
structure Code (us : List Int) : Prop where
  len : us.length ≤ 4096
  byte : ∀ k, 0 ≤ us.getD k 0 ∧ us.getD k 0 ≤ 255
structure SrcAt (w : World) (g : Nat) (A : Option Addr) (us : List Int) (c p : Nat) (sd : Int) : Prop where
  cells : ∀ i, w.cell? ⟨g, i, none⟩ = #[Value.slice A us.length c, .int .i64 (p : Nat), .int .i64 sd][i]?
  free : ∀ i, w.frozen? ⟨g, i, none⟩ = false
  rd : Rd w g A (bv us)
  code : Code us
  le : p ≤ us.length
  lo : 0 ≤ sd
  hi : sd < 2147483647
def Src (w : World) (g : Nat) : Prop := ∃ A us c p sd, SrcAt w g A us c p sd
theorem SrcAt.lt {w : World} {g : Nat} {A : Option Addr} {us : List Int} {c p : Nat} {sd : Int} (h : SrcAt w g A us c p sd) : g < w.heap.size := lt_cell h.cells (by simp)
theorem Src.lt {w : World} {g : Nat} (h : Src w g) : g < w.heap.size := by
  obtain ⟨_, _, _, _, _, h⟩ := h
  exact h.lt
theorem Src.bw {w w1 : World} {g : Nat} (h : Src w g) (hb : Below w.heap.size w w1) : Src w1 g := by
  obtain ⟨A, us, c, p, sd, h⟩ := h
  exact ⟨A, us, c, p, sd, cell_kept hb h.lt h.cells, frz_kept hb h.lt h.free, h.rd.keep (hb.mono (Nat.le_of_lt h.lt)), h.code, h.le, h.lo, h.hi⟩
theorem Src.al {w : World} {g : Nat} (h : Src w g) (o : Obj) : Src (w.alloc o) g := h.bw ((Below.refl _ _).alloc (Nat.le_refl _) o)
theorem Src.dr {w : World} {g : Nat} (h : Src w g) (n : Nat) : Src (w.drewN n) g := by
  obtain ⟨A, us, c, p, sd, h⟩ := h
  exact ⟨A, us, c, p, sd, h.cells, h.free, h.rd, h.code, h.le, h.lo, h.hi⟩
theorem Src.drw {w : World} {g : Nat} (h : Src w g) : Src w.drew g := by
  obtain ⟨A, us, c, p, sd, h⟩ := h
  exact ⟨A, us, c, p, sd, h.cells, h.free, h.rd, h.code, h.le, h.lo, h.hi⟩
theorem Src.new {w : World} {g b : Nat} (h : Src w g) (hb : g < b) (o : Nat) (u : Value) : Src (w.setCell ⟨b, o, none⟩ u) g := by
  obtain ⟨A, us, c, p, sd, h⟩ := h
  have hk : Below (g + 1) w (w.setCell ⟨b, o, none⟩ u) := (Below.refl _ _).setCell (p := ⟨b, o, none⟩) (by show g + 1 ≤ b; omega) u
  exact ⟨A, us, c, p, sd, cell_kept hk (by omega) h.cells, frz_kept hk (by omega) h.free, h.rd.keep (hk.mono (by omega)), h.code, h.le, h.lo, h.hi⟩
theorem Src.grow {w w1 : World} {g b : Nat} (h : Src w g) (hb : g < b) (hg : w.grownBy w1 (some b)) : Src w1 g := by
  obtain ⟨A, us, c, p, sd, h⟩ := h
  have hk : Below (g + 1) w w1 := (Below.refl _ _).grown hg (by have := h.lt; omega) (fun k hk => by cases hk; omega)
  exact ⟨A, us, c, p, sd, cell_kept hk (by omega) h.cells, frz_kept hk (by omega) h.free, h.rd.keep (hk.mono (by omega)), h.code, h.le, h.lo, h.hi⟩
theorem SrcAt.src {w : World} {g : Nat} {A : Option Addr} {us : List Int} {c p : Nat} {sd : Int} (h : SrcAt w g A us c p sd) : Src w g := ⟨A, us, c, p, sd, h⟩
theorem SrcAt.rdK {w : World} {g : Nat} {A : Option Addr} {us : List Int} {c p : Nat} {sd : Int} (h : SrcAt w g A us c p sd) (k : Nat) (v : Value) : Rd (w.setCell ⟨g, k, none⟩ v) g A (bv us) :=
  h.rd.keep ((Below.refl _ _).setCell (p := ⟨g, k, none⟩) (Nat.le_refl _) v)
theorem SrcAt.dr {w : World} {g : Nat} {A : Option Addr} {us : List Int} {c p : Nat} {sd : Int} (h : SrcAt w g A us c p sd) (n : Nat) : SrcAt (w.drewN n) g A us c p sd := ⟨h.cells, h.free, h.rd, h.code, h.le, h.lo, h.hi⟩
theorem SrcAt.seed {w : World} {g : Nat} {A : Option Addr} {us : List Int} {c p : Nat} {sd : Int} (h : SrcAt w g A us c p sd) {x : Int} (h0 : 0 ≤ x) (h1 : x < 2147483647) : SrcAt (w.setCell ⟨g, 2, none⟩ (.int .i64 x)) g A us c p x :=
  ⟨fun i => by have := cell_put h.cells 2 (.int .i64 x) (by simp) i; simpa using this, frz_put h.free 2 _, h.rdK 2 _, h.code, h.le, h0, h1⟩
theorem SrcAt.next {w : World} {g : Nat} {A : Option Addr} {us : List Int} {c p : Nat} {sd : Int} (h : SrcAt w g A us c p sd) (hp : p < us.length) : SrcAt (w.setCell ⟨g, 1, none⟩ (.int .i64 ((p : Int) + 1))) g A us c (p + 1) sd :=
  ⟨fun i => by have := cell_put h.cells 1 (.int .i64 ((p : Int) + 1)) (by simp) i; simpa using this, frz_put h.free 1 _, h.rdK 1 _, h.code, hp, h.lo, h.hi⟩
/-- What a draw hands back: a number with P; the source alone was written. -/
def NumP (g : Nat) (P : Int → Prop) (w : World) (e : Ending) (w' : World) : Prop := ∃ x : Int, P x ∧ e = .returned (.int .i64 x) ∧ Src w' g ∧ w.grownBy w' (some g)
def NextR (n x : Int) : Prop := 0 ≤ x ∧ (x < n ∨ x = 0)

/-- A source of its own. -/
def FromP (w : World) (e : Ending) (w' : World) : Prop := e = .returned (.pointer (some ⟨w.heap.size, 0, none⟩)) ∧ Src w' w.heap.size ∧ Below w.heap.size w w'
set_option maxHeartbeats 1000000 in
theorem spec_From (A : Option Addr) (c : Nat) (us : List Int) (w : World) (hu : Code us) (hr : Rd w w.heap.size A (bv us)) : Calls Try.prog 99 #[.slice A us.length c] w (FromP w) := by
  have HR := Lib.hid hr
  have HU := Lib.hid hu
  have hl := hu.len
  clear hr hu
  go_enter Try.func99, Try.ntmps99
  go_wp2_with fail
  go_loopw [4] (fun s4 wr => ∃ (k : Nat) (sd : Int), k ≤ us.length ∧ s4 = .int .i64 k ∧ 0 ≤ sd ∧ sd < 2147483647 ∧ (∀ i, wr.cell? ⟨w.heap.size, i, none⟩ = #[Value.slice A us.length c, .int .i64 0, .int .i64 sd][i]?) ∧ (∀ i, wr.frozen? ⟨w.heap.size, i, none⟩ = false) ∧ Below w.heap.size w wr) (fun s4 _ => us.length - (intOf s4).toNat)
  case atStart => exact ⟨0, 61043, Nat.zero_le _, rfl, by omega, by omega, cell_new w _ _, frz_new w _ _, by (repeat (first | with_reducible exact Below.refl _ _ | with_reducible assumption | ((with_reducible refine Bw.set ?_ ?_); rotate_left; focus omega) | ((with_reducible refine Bw.al ?_ ?_); rotate_left; focus (first | omega | (simp; done) | (simp; omega))) | with_reducible refine Below.drew ?_ | with_reducible refine Bw.dr ?_ _))⟩
  case round =>
    obtain ⟨k, sd, hk, rfl, h0, h1, hc, hf, hb⟩ := hrel
    have HC := Lib.hid hc
    have HF := Lib.hid hf
    have c2 := hc 2
    have f2 := hf 2
    clear hc hf
    by_cases hlt : k < us.length ∧ k < 64
    · obtain ⟨hlt, h64⟩ := hlt
      obtain ⟨ad, rfl, ha⟩ := (HR.out.keep hb).byt hlt
      have hx := HU.out.byte k
      generalize us.getD k 0 = x at *
      have e1 : IntKind.i64.wrap (sd * 83) = sd * 83 := IntWalk.i64_in _ (by omega)
      have e2 : IntKind.i64.wrap x = x := IntWalk.i64_in _ (by omega)
      have e3 : IntKind.i64.wrap (sd * 83 + x) = sd * 83 + x := IntWalk.i64_in _ (by omega)
      have e4 : (sd * 83 + x).tmod 2147483647 = (sd * 83 + x) % 2147483647 := Int.tmod_eq_emod_of_nonneg (by omega)
      have g1 : decide (k < us.length) = true := decide_eq_true hlt
      have g2 : decide ((k : Int) < 64) = true := decide_eq_true (by omega)
      go_wp2_with fail
      go_region
      all_goals
        go_wp2_with fail
        go_roundw
        case rel =>
          refine ⟨k + 1, (sd * 83 + x) % 2147483647, by omega, by go_num, by omega, by omega, fun i => ?_, frz_put HF.out 2 _, by (repeat (first | with_reducible exact Below.refl _ _ | with_reducible assumption | ((with_reducible refine Bw.set ?_ ?_); rotate_left; focus omega) | ((with_reducible refine Bw.al ?_ ?_); rotate_left; focus (first | omega | (simp; done) | (simp; omega))) | with_reducible refine Below.drew ?_ | with_reducible refine Bw.dr ?_ _))⟩
          have := cell_put HC.out 2 (.int .i64 ((sd * 83 + x) % 2147483647)) (by simp) i
          simpa using this
        case measure => simp [intOf]; omega
    · by_cases hlt : k < us.length
      · have g1 : decide (k < us.length) = true := decide_eq_true hlt
        have g2 : decide ((k : Int) < 64) = false := decide_eq_false (by omega)
        have g3 : 64 ≤ (k : Int) := by omega
        go_wp2_with fail
        go_ret
        exact ⟨rfl, ⟨_, us, c, 0, sd, HC.out, HF.out, HR.out.keep hb, HU.out, Nat.zero_le _, h0, h1⟩, hb⟩
      · have g1 : decide (k < us.length) = false := decide_eq_false hlt
        have g3 : us.length ≤ k := by omega
        go_wp2_with fail
        go_ret
        exact ⟨rfl, ⟨_, us, c, 0, sd, HC.out, HF.out, HR.out.keep hb, HU.out, Nat.zero_le _, h0, h1⟩, hb⟩
set_option maxHeartbeats 1000000 in
theorem spec_Next (g : Nat) (n : Int) (w : World) (hs : Src w g) (hn : n ≤ 4000000000) : Calls Try.prog 104 #[.pointer (some ⟨g, 0, none⟩), .int .i64 n] w (NumP g (NextR n) w) := by
  by_cases h1 : n ≤ 1
  · have HS := Lib.hid hs
    clear hs
    go_enter Try.func104, Try.ntmps104
    go_wp2_with fail
    go_ret
    exact ⟨0, ⟨by omega, .inr rfl⟩, rfl, HS.out, Gr.refl _ _⟩
  · obtain ⟨A, us, c, p, sd, h⟩ := hs
    have H := Lib.hid h
    have hc := h.cells
    have hf := h.free
    have c2 := hc 2
    have f2 := hf 2
    have hlo := h.lo
    have hhi := h.hi
    have hl := h.code.len
    have hle := h.le
    have hs0 : 0 ≤ (sd * 48271 + 29) % 2147483647 ∧ (sd * 48271 + 29) % 2147483647 < 2147483647 := by omega
    have H1 := Lib.hid (h.seed hs0.1 hs0.2)
    clear h hc hf
    go_enter Try.func104, Try.ntmps104
    go_upto_region 5 with fail
    generalize (sd * 48271 + 29) % 2147483647 = s1 at *
    have hg : w.grownBy (w.setCell ⟨g, 2, none⟩ (.int .i64 s1)) (some g) := Gr.st (Gr.refl _ _) _ _
    generalize w.setCell ⟨g, 2, none⟩ (.int .i64 s1) = w1 at *
    clear c2 f2 hlo hhi
    have c0 := H1.out.cells 0
    have c1 := H1.out.cells 1
    have f1 := H1.out.free 1
    by_cases hp : p < us.length
    · obtain ⟨ad, rfl, ha⟩ := H1.out.rd.byt hp
      have hb := H1.out.code.byte p
      generalize us.getD p 0 = b at *
      have g1 : decide (p < us.length) = true := decide_eq_true hp
      have e0 : 0 ≤ s1 / 31 ∧ s1 / 31 ≤ 100000000 := by omega
      go_quiet (fail)
      go_wp2_with fail
      go_quiet (fail)
      go_upto_region 8 with fail
      generalize e9 : w1.drewN _ = w2 at *
      have H2 := Lib.hid ((e9 ▸ H1.out.dr _ : SrcAt w2 g (some ad) us c p s1).next hp)
      have hg2 : w.grownBy (w2.setCell ⟨g, 1, none⟩ (.int .i64 ((p : Int) + 1))) (some g) := Gr.st (e9 ▸ Gr.dr hg _) _ _
      generalize w2.setCell ⟨g, 1, none⟩ (.int .i64 ((p : Int) + 1)) = w3 at *
      clear c0 c1 f1 ha e9
      obtain ⟨ad, e, ha⟩ := H2.out.rd.byt hp
      cases e
      have c0 := H2.out.cells 0
      have c1 := H2.out.cells 1
      have hx : 0 ≤ s1 / 31 + b ∧ s1 / 31 + b ≤ 200000000 := by omega
      generalize s1 / 31 + b = x at *
      by_cases q1 : n ≤ 256
      · by_cases q2 : ((p : Int) + 1) % 2 = 0
        · have g2 : (((p : Int) + 1) % 2 == 0) = true := by simp [q2]
          have e1 : IntKind.i64.wrap ((p : Int) + 1 - 1) = p := by rw [IntWalk.i64_in _ (by omega)]; omega
          have hb2 := H2.out.code.byte p
          generalize us.getD p 0 = y at ha hb2
          have en := Int.emod_nonneg y (b := n) (by omega)
          have en2 := Int.emod_lt_of_pos y (b := n) (by omega)
          clear q2
          go_wp2_with fail
          go_quiet (fail)
          go_wp2_with fail
          go_ret
          exact ⟨_, ⟨en, .inl en2⟩, rfl, H2.out.src.dr _, Gr.dr hg2 _⟩
        · have g2 : (((p : Int) + 1) % 2 == 0) = false := by simp [q2]
          have en := Int.emod_nonneg x (b := n) (by omega)
          have en2 := Int.emod_lt_of_pos x (b := n) (by omega)
          clear q2
          go_wp2_with fail
          go_ret
          exact ⟨_, ⟨en, .inl en2⟩, rfl, H2.out.src, hg2⟩
      · have en := Int.emod_nonneg x (b := n) (by omega)
        have en2 := Int.emod_lt_of_pos x (b := n) (by omega)
        go_wp2_with fail
        go_ret
        exact ⟨_, ⟨en, .inl en2⟩, rfl, H2.out.src, hg2⟩
    · have g1 : decide (p < us.length) = false := decide_eq_false hp
      have e0 : 0 ≤ s1 / 31 ∧ s1 / 31 ≤ 100000000 := by omega
      have en := Int.emod_nonneg (s1 / 31) (b := n) (by omega)
      have en2 := Int.emod_lt_of_pos (s1 / 31) (b := n) (by omega)
      go_quiet (fail)
      go_wp2_with fail
      go_ret
      exact ⟨_, ⟨en, .inl en2⟩, rfl, H1.out.src.dr _, Gr.dr hg _⟩
theorem pick_at {xs : List Int} {x : Int} (h0 : 0 ≤ x) (h1 : x < xs.length) : xs.getD x.toNat 0 ∈ xs := by
  rw [List.getD_eq_getElem?_getD, List.getElem?_eq_getElem (by omega)]
  exact List.getElem_mem _
set_option maxHeartbeats 1000000 in
theorem spec_Pick (g b cap : Nat) (xs : List Int) (w : World) (hs : Src w g) (hl : 1 ≤ xs.length ∧ xs.length ≤ 100) (hc : ∀ i, w.cell? ⟨b, i, none⟩ = (iv xs).toArray[i]?) (hb : b ≠ g) :
    Calls Try.prog 123 #[.pointer (some ⟨g, 0, none⟩), .slice (some ⟨b, 0, none⟩) xs.length cap] w (NumP g (· ∈ xs) w) := by
  have HS := Lib.hid hs
  have HC := Lib.hid hc
  clear hs hc
  go_enter Try.func123, Try.ntmps123
  go_wp2_with fail
  (with_reducible refine (spec_Next g xs.length _ HS.out (by omega)).mono ?_)
  rintro e w1 ⟨x, ⟨hx0, hx1⟩, rfl, hs1, hg1⟩
  have hx : x < xs.length := by omega
  have HM := Lib.hid (pick_at hx0 hx)
  have hc1 := (cell_gr HC.out (by simp [iv]; omega) hb hg1) x.toNat
  rw [List.getElem?_toArray, iv_get (by omega)] at hc1
  have e1 : ((x.toNat : Nat) : Int) = x := by omega
  generalize xs.getD x.toNat 0 = y at *
  have HS1 := Lib.hid hs1
  clear hx1 hs1
  go_wp2_with fail
  go_ret
  exact ⟨y, HM.out, rfl, HS1.out, hg1⟩
theorem spec_PickN (g b n cap : Nat) (xs : List Int) (w : World) (hs : Src w g) (hn : xs.length = n) (hl : 1 ≤ n ∧ n ≤ 100) (hc : ∀ i, w.cell? ⟨b, i, none⟩ = (iv xs).toArray[i]?) (hb : b ≠ g) :
    Calls Try.prog 123 #[.pointer (some ⟨g, 0, none⟩), .slice (some ⟨b, 0, none⟩) n cap] w (NumP g (· ∈ xs) w) := by
  subst hn
  exact spec_Pick g b cap xs w hs hl hc hb

end Go.Proofs.Ytpejbmfapdocaaa
