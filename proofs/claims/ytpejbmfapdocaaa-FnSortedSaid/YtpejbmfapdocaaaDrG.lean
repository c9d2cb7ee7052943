/- Slices of a draw's own beside the source; single words drawn. Conditions: those that each theorem names. -/
import Derived.Test.YtpejbmfapdocaaaDrT
import Derived.Test.YtpejbmfapdocaaaOwn
namespace Go.Proofs.Ytpejbmfapdocaaa
open Go.RowKit

theorem Gr.app {a b c : World} {g : Nat} {row : Option Nat} (h : a.grownBy b (some g)) (k : b.grownBy c row) (hr : ∀ j, row = some j → a.heap.size ≤ j) : a.grownBy c (some g) :=
  ⟨k.os.trans h.os, k.tape.trans h.tape, k.output.trans h.output, Nat.le_trans h.size k.size, fun i hi hne => (k.block i (Nat.lt_of_lt_of_le hi h.size) (fun e => by have := hr i e.symm; omega)).trans (h.block i hi hne)⟩
theorem Src.app {w w1 : World} {g : Nat} {row : Option Nat} (h : Src w g) (k : w.grownBy w1 row) (hr : ∀ j, row = some j → g < j) : Src w1 g := by
  obtain ⟨A, us, c, p, sd, h⟩ := h
  have hk : Below (g + 1) w w1 := (Below.refl _ _).grown k (by have := h.lt; omega) (fun j hj => hr j hj)
  exact ⟨A, us, c, p, sd, cell_kept hk (by omega) h.cells, frz_kept hk (by omega) h.free, h.rd.keep (hk.mono (by omega)), h.code, h.le, h.lo, h.hi⟩
theorem own_none (w : World) (T : TypeId) : (w.alloc (.cells #[] T)).ownsRow w.heap.size T 1 (.slice (some ⟨w.heap.size, 0, none⟩) 0 0) 0 [] :=
  ⟨rfl, .inr ⟨w.heap.size, 0, _, rfl, Nat.le_refl _, heap_alloc_new _ _, Nat.zero_le _, by unfold maxLen; omega, rfl, rfl⟩⟩
theorem own_gr {w w1 : World} {base n g : Nat} {e : TypeId} {v : Value} {us : List Value} (h : w.ownsRow base e 1 v n us) (hg : w.grownBy w1 (some g)) (hb : g < base) : w1.ownsRow base e 1 v n us :=
  h.kept hg (by
    cases hv : v.ownBlock with
    | none => exact .inl rfl
    | some k => refine .inr (fun e => ?_); have := own_base h k hv; cases e; omega)
set_option maxRecDepth 100000 in
set_option maxHeartbeats 1000000 in
theorem spec_l01Good (g : Nat) (w : World) (hs : Src w g) : Calls Try.prog 156 #[.pointer (some ⟨g, 0, none⟩)] w (StrP g 20 w) := by
  have hgw := hs.lt
  have S := Lib.hid hs
  have G := Gr.refl w g
  have zG := G.size
  clear hs
  go_enter Try.func156, Try.ntmps156
  go_upto_region 1 with fail
  go_wp2_with fail
  (with_reducible refine (spec_Next g 12 _ (by (repeat (first | exact S.out | with_reducible refine Src.al ?_ _ | with_reducible refine Src.dr ?_ _ | with_reducible refine Src.drw ?_ | ((with_reducible refine Src.new ?_ ?_ _ _); rotate_left; focus omega)))) (by omega)).mono ?_)
  rintro e w1 ⟨x, hx, rfl, hs, hg⟩
  obtain ⟨x, rfl⟩ : ∃ j : Nat, x = (j : Int) := ⟨Int.toNat x, by have := hx.1; omega⟩
  have hx2 : x < 12 := by have := hx.2; omega
  have hk := cell_gr (cell_new _ _ _) (by simp) (by first | omega | (simp; done) | (simp; omega)) hg x
  obtain ⟨t, ht, hsz⟩ := strs_at (n := 12) (m := 20) hk (by intro k hk; rcases k with _ | _ | _ | _ | _ | _ | _ | _ | _ | _ | _ | _ | k <;> first | exact ⟨_, rfl, by decide⟩ | omega) hx2
  clear hk
  replace G : w.grownBy w1 (some g) := Gr.tr (by (repeat (first | exact G | with_reducible refine Gr.al ?_ _ | with_reducible refine Gr.dr ?_ _ | with_reducible refine Gr.drw ?_ | ((with_reducible refine Gr.new ?_ ?_ _ _); rotate_left; focus omega)))) hg
  clear S hx
  have S := Lib.hid hs
  have zG := G.size
  clear hs hg
  go_wp2_with fail
  go_ret
  exact ⟨_, by omega, rfl, by (repeat (first | exact S.out | with_reducible refine Src.al ?_ _ | with_reducible refine Src.dr ?_ _ | with_reducible refine Src.drw ?_ | ((with_reducible refine Src.new ?_ ?_ _ _); rotate_left; focus omega))), by (repeat (first | exact G | with_reducible refine Gr.al ?_ _ | with_reducible refine Gr.dr ?_ _ | with_reducible refine Gr.drw ?_ | ((with_reducible refine Gr.new ?_ ?_ _ _); rotate_left; focus omega)))⟩
set_option maxRecDepth 100000 in
set_option maxHeartbeats 1000000 in
theorem spec_l01DrawWord (g : Nat) (w : World) (hs : Src w g) : Calls Try.prog 129 #[.pointer (some ⟨g, 0, none⟩)] w (StrP g 20 w) := by
  have hgw := hs.lt
  have S := Lib.hid hs
  have G := Gr.refl w g
  have zG := G.size
  clear hs
  go_enter Try.func129, Try.ntmps129
  go_wp2_with fail
  (with_reducible refine (spec_Next g 24 _ (by (repeat (first | exact S.out | with_reducible refine Src.al ?_ _ | with_reducible refine Src.dr ?_ _ | with_reducible refine Src.drw ?_ | ((with_reducible refine Src.new ?_ ?_ _ _); rotate_left; focus omega)))) (by omega)).mono ?_)
  rintro e w1 ⟨x, hx, rfl, hs, hg⟩
  replace G : w.grownBy w1 (some g) := Gr.tr (by (repeat (first | exact G | with_reducible refine Gr.al ?_ _ | with_reducible refine Gr.dr ?_ _ | with_reducible refine Gr.drw ?_ | ((with_reducible refine Gr.new ?_ ?_ _ _); rotate_left; focus omega)))) hg
  clear S
  have S := Lib.hid hs
  have zG := G.size
  clear hs hg
  clear hx
  rcases e0 : (x == 0) with _ | _
  · go_wp2_with fail
    (with_reducible refine (spec_l01Good g _ (by (repeat (first | exact S.out | with_reducible refine Src.al ?_ _ | with_reducible refine Src.dr ?_ _ | with_reducible refine Src.drw ?_ | ((with_reducible refine Src.new ?_ ?_ _ _); rotate_left; focus omega))))).mono ?_)
    rintro e w2 ⟨t, ht, rfl, hs, hg⟩
    replace G : w.grownBy w2 (some g) := Gr.tr (by (repeat (first | exact G | with_reducible refine Gr.al ?_ _ | with_reducible refine Gr.dr ?_ _ | with_reducible refine Gr.drw ?_ | ((with_reducible refine Gr.new ?_ ?_ _ _); rotate_left; focus omega)))) hg
    clear S
    have S := Lib.hid hs
    clear hs hg
    go_wp2_with fail
    go_ret
    exact ⟨_, ht, rfl, by (repeat (first | exact S.out | with_reducible refine Src.al ?_ _ | with_reducible refine Src.dr ?_ _ | with_reducible refine Src.drw ?_ | ((with_reducible refine Src.new ?_ ?_ _ _); rotate_left; focus omega))), by (repeat (first | exact G | with_reducible refine Gr.al ?_ _ | with_reducible refine Gr.dr ?_ _ | with_reducible refine Gr.drw ?_ | ((with_reducible refine Gr.new ?_ ?_ _ _); rotate_left; focus omega)))⟩
  · go_wp2_with fail
    (with_reducible refine (spec_Next g 6 _ (by (repeat (first | exact S.out | with_reducible refine Src.al ?_ _ | with_reducible refine Src.dr ?_ _ | with_reducible refine Src.drw ?_ | ((with_reducible refine Src.new ?_ ?_ _ _); rotate_left; focus omega)))) (by omega)).mono ?_)
    rintro e w2 ⟨k, hk, rfl, hs, hg⟩
    obtain ⟨k, rfl⟩ : ∃ j : Nat, k = (j : Int) := ⟨Int.toNat k, by have := hk.1; omega⟩
    have hx2 : k < 6 := by have := hk.2; omega
    have hk := cell_gr (cell_new _ _ _) (by simp) (by first | omega | (simp; done) | (simp; omega)) hg k
    obtain ⟨t, ht, hsz⟩ := strs_at (n := 6) (m := 20) hk (by intro k hk; rcases k with _ | _ | _ | _ | _ | _ | _ | _ | _ | _ | _ | _ | k <;> first | exact ⟨_, rfl, by decide⟩ | omega) hx2
    clear hk
    replace G : w.grownBy w2 (some g) := Gr.tr (by (repeat (first | exact G | with_reducible refine Gr.al ?_ _ | with_reducible refine Gr.dr ?_ _ | with_reducible refine Gr.drw ?_ | ((with_reducible refine Gr.new ?_ ?_ _ _); rotate_left; focus omega)))) hg
    clear S hk
    have S := Lib.hid hs
    have zG := G.size
    clear hs hg
    go_wp2_with fail
    go_ret
    exact ⟨_, by omega, rfl, by (repeat (first | exact S.out | with_reducible refine Src.al ?_ _ | with_reducible refine Src.dr ?_ _ | with_reducible refine Src.drw ?_ | ((with_reducible refine Src.new ?_ ?_ _ _); rotate_left; focus omega))), by (repeat (first | exact G | with_reducible refine Gr.al ?_ _ | with_reducible refine Gr.dr ?_ _ | with_reducible refine Gr.drw ?_ | ((with_reducible refine Gr.new ?_ ?_ _ _); rotate_left; focus omega)))⟩
set_option maxHeartbeats 1000000 in
theorem spec_DrawIsWord (A : Option Addr) (cap : Nat) (us : List Int) (v : World) (hu : Code us) (hr : Rd v v.heap.size A (bv us)) : Calls Try.prog 54 #[.slice A us.length cap] v (StrD 20 v) := by
  have HU := Lib.hid hu
  have HR := Lib.hid hr
  clear hu hr
  have bb := Below.refl v.heap.size v
  have zb := bb.size
  go_enter Try.func54, Try.ntmps54
  go_wp2_with fail
  (with_reducible refine (spec_From _ _ us _ HU.out (HR.out)).mono ?_)
  rintro e w ⟨rfl, hs, hb⟩
  have bb : Below v.heap.size v w := hb
  have zv : v.heap.size ≤ v.heap.size := Nat.le_refl _
  obtain ⟨g, hgg⟩ : ∃ g, v.heap.size = g := ⟨_, rfl⟩
  rw [hgg] at hs
  have hgw := hs.lt
  have S := Lib.hid hs
  have G := Gr.refl w g
  have zG := G.size
  have hgv : v.heap.size ≤ g := Nat.le_of_eq hgg
  rw [hgg]
  clear hb hs hgg
  go_wp2_with fail
  (with_reducible refine (spec_l01DrawWord g _ (by (repeat (first | exact S.out | with_reducible refine Src.al ?_ _ | with_reducible refine Src.dr ?_ _ | with_reducible refine Src.drw ?_ | ((with_reducible refine Src.new ?_ ?_ _ _); rotate_left; focus omega))))).mono ?_)
  rintro e w1 ⟨t, ht, rfl, hs, hg⟩
  replace G : w.grownBy w1 (some g) := Gr.tr (by (repeat (first | exact G | with_reducible refine Gr.al ?_ _ | with_reducible refine Gr.dr ?_ _ | with_reducible refine Gr.drw ?_ | ((with_reducible refine Gr.new ?_ ?_ _ _); rotate_left; focus omega)))) hg
  replace bb := Gr.below bb G (by omega) (by omega)
  go_wp2_with fail
  go_ret
  exact ⟨_, ht, rfl, bb⟩

end Go.Proofs.Ytpejbmfapdocaaa
