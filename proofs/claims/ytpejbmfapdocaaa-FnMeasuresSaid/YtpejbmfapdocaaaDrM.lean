/- Arguments of the measures' law drawn, and measures read: one contract for both sides. Conditions: those that each theorem names. -/
import Derived.Test.YtpejbmfapdocaaaDrT
import Derived.Test.YtpejbmfapdocaaaDrL
import Derived.Test.YtpejbmfapdocaaaRm
namespace Go.Proofs.Ytpejbmfapdocaaa
open Go.RowKit

def NumD (v : World) (e : Ending) (w' : World) : Prop := ∃ x : Int, e = .returned (.int .i64 x) ∧ Below v.heap.size v w'
set_option maxRecDepth 100000 in
set_option maxHeartbeats 1000000 in
theorem spec_DrawMeasureText (A : Option Addr) (cap : Nat) (us : List Int) (v : World) (hu : Code us) (hr : Rd v v.heap.size A (bv us)) : Calls Try.prog 80 #[.slice A us.length cap] v (NumD v) := by
  have HU := Lib.hid hu
  have HR := Lib.hid hr
  clear hu hr
  have bb := Below.refl v.heap.size v
  have zb := bb.size
  go_enter Try.func80, Try.ntmps80
  go_wp2_with fail
  (with_reducible refine (spec_From _ _ us _ HU.out (HR.out)).mono ?_)
  rintro e w ⟨rfl, hs, hb⟩
  have bb : Below v.heap.size v w := hb
  have zv : v.heap.size ≤ v.heap.size := Nat.le_refl _
  obtain ⟨g, hgg⟩ : ∃ g, v.heap.size = g := ⟨_, rfl⟩
  rw [hgg] at hs
  have hgw := hs.lt
  have S := Lib.hid hs
  have G := Gr.refl w g
  have zG := G.size
  have hgv : v.heap.size ≤ g := Nat.le_of_eq hgg
  rw [hgg]
  clear hb hs hgg
  go_wp2_with fail
  (with_reducible refine (spec_Next g 10000 _ (by (repeat (first | exact S.out | with_reducible refine Src.al ?_ _ | with_reducible refine Src.dr ?_ _ | with_reducible refine Src.drw ?_ | ((with_reducible refine Src.new ?_ ?_ _ _); rotate_left; focus omega)))) (by omega)).mono ?_)
  rintro e w1 ⟨x1, hx1, rfl, hs, hg⟩
  replace G : w.grownBy w1 (some g) := Gr.tr (by (repeat (first | exact G | with_reducible refine Gr.al ?_ _ | with_reducible refine Gr.dr ?_ _ | with_reducible refine Gr.drw ?_ | ((with_reducible refine Gr.new ?_ ?_ _ _); rotate_left; focus omega)))) hg
  clear S
  have S := Lib.hid hs
  have zG := G.size
  clear hs hg
  clear hx1
  go_wp2_with fail
  (with_reducible refine (spec_DrawValue g _ (by (repeat (first | exact S.out | with_reducible refine Src.al ?_ _ | with_reducible refine Src.dr ?_ _ | with_reducible refine Src.drw ?_ | ((with_reducible refine Src.new ?_ ?_ _ _); rotate_left; focus omega))))).mono ?_)
  rintro e w2 ⟨x2, hx2, rfl, hs, hg⟩
  replace G : w.grownBy w2 (some g) := Gr.tr (by (repeat (first | exact G | with_reducible refine Gr.al ?_ _ | with_reducible refine Gr.dr ?_ _ | with_reducible refine Gr.drw ?_ | ((with_reducible refine Gr.new ?_ ?_ _ _); rotate_left; focus omega)))) hg
  clear S
  have S := Lib.hid hs
  have zG := G.size
  clear hs hg
  clear hx2
  go_wp2_with fail
  (refine (spec_PickN g _ 2 _ [_, _] _ (by (repeat (first | exact S.out | with_reducible refine Src.al ?_ _ | with_reducible refine Src.dr ?_ _ | with_reducible refine Src.drw ?_ | ((with_reducible refine Src.new ?_ ?_ _ _); rotate_left; focus omega)))) rfl (by decide) (cell_new _ _ _) (by first | omega | (simp; omega))).mono ?_)
  rintro e w3 ⟨x3, hx3, rfl, hs, hg⟩
  replace G : w.grownBy w3 (some g) := Gr.tr (by (repeat (first | exact G | with_reducible refine Gr.al ?_ _ | with_reducible refine Gr.dr ?_ _ | with_reducible refine Gr.drw ?_ | ((with_reducible refine Gr.new ?_ ?_ _ _); rotate_left; focus omega)))) hg
  clear S
  have S := Lib.hid hs
  have zG := G.size
  clear hs hg
  clear hx3
  replace bb := Gr.below bb G (by omega) (by omega)
  go_wp2_with fail
  go_ret
  exact ⟨_, rfl, bb⟩
set_option maxRecDepth 100000 in
set_option maxHeartbeats 1000000 in
theorem spec_DrawReadMeasure (A : Option Addr) (cap : Nat) (us : List Int) (v : World) (hu : Code us) (hr : Rd v v.heap.size A (bv us)) : Calls Try.prog 83 #[.slice A us.length cap] v (StrD 100 v) := by
  have HU := Lib.hid hu
  have HR := Lib.hid hr
  clear hu hr
  have bb := Below.refl v.heap.size v
  have zb := bb.size
  go_enter Try.func83, Try.ntmps83
  go_wp2_with fail
  (with_reducible refine (spec_From _ _ us _ HU.out (HR.out)).mono ?_)
  rintro e w ⟨rfl, hs, hb⟩
  have bb : Below v.heap.size v w := hb
  have zv : v.heap.size ≤ v.heap.size := Nat.le_refl _
  obtain ⟨g, hgg⟩ : ∃ g, v.heap.size = g := ⟨_, rfl⟩
  rw [hgg] at hs
  have hgw := hs.lt
  have S := Lib.hid hs
  have G := Gr.refl w g
  have zG := G.size
  have hgv : v.heap.size ≤ g := Nat.le_of_eq hgg
  rw [hgg]
  clear hb hs hgg
  go_wp2_with fail
  (with_reducible refine (spec_Next g 10000 _ (by (repeat (first | exact S.out | with_reducible refine Src.al ?_ _ | with_reducible refine Src.dr ?_ _ | with_reducible refine Src.drw ?_ | ((with_reducible refine Src.new ?_ ?_ _ _); rotate_left; focus omega)))) (by omega)).mono ?_)
  rintro e w1 ⟨x1, hx1, rfl, hs, hg⟩
  replace G : w.grownBy w1 (some g) := Gr.tr (by (repeat (first | exact G | with_reducible refine Gr.al ?_ _ | with_reducible refine Gr.dr ?_ _ | with_reducible refine Gr.drw ?_ | ((with_reducible refine Gr.new ?_ ?_ _ _); rotate_left; focus omega)))) hg
  clear S
  have S := Lib.hid hs
  have zG := G.size
  clear hs hg
  obtain ⟨y1, y1'⟩ := hx1
  have y3 : x1 ≤ 10000 := by omega
  clear y1'
  go_wp2_with fail
  (with_reducible refine (spec_Next g 30 _ (by (repeat (first | exact S.out | with_reducible refine Src.al ?_ _ | with_reducible refine Src.dr ?_ _ | with_reducible refine Src.drw ?_ | ((with_reducible refine Src.new ?_ ?_ _ _); rotate_left; focus omega)))) (by omega)).mono ?_)
  rintro e w2 ⟨x2, hx2, rfl, hs, hg⟩
  replace G : w.grownBy w2 (some g) := Gr.tr (by (repeat (first | exact G | with_reducible refine Gr.al ?_ _ | with_reducible refine Gr.dr ?_ _ | with_reducible refine Gr.drw ?_ | ((with_reducible refine Gr.new ?_ ?_ _ _); rotate_left; focus omega)))) hg
  clear S
  have S := Lib.hid hs
  have zG := G.size
  clear hs hg
  obtain ⟨y2, y2'⟩ := hx2
  have y4 : x2 ≤ 30 := by omega
  clear y2'
  go_wp2_with fail
  (refine (spec_PickN g _ 4 _ [_, _, _, _] _ (by (repeat (first | exact S.out | with_reducible refine Src.al ?_ _ | with_reducible refine Src.dr ?_ _ | with_reducible refine Src.drw ?_ | ((with_reducible refine Src.new ?_ ?_ _ _); rotate_left; focus omega)))) rfl (by decide) (cell_new _ _ _) (by first | omega | (simp; omega))).mono ?_)
  rintro e w3 ⟨x3, hx3, rfl, hs, hg⟩
  replace G : w.grownBy w3 (some g) := Gr.tr (by (repeat (first | exact G | with_reducible refine Gr.al ?_ _ | with_reducible refine Gr.dr ?_ _ | with_reducible refine Gr.drw ?_ | ((with_reducible refine Gr.new ?_ ?_ _ _); rotate_left; focus omega)))) hg
  clear S
  have S := Lib.hid hs
  have zG := G.size
  clear hs hg
  have hx4 : -10000000000000 ≤ x3 ∧ x3 ≤ 10000000000000 := by
    simp only [List.mem_cons, List.mem_nil_iff, or_false] at hx3
    omega
  clear hx3
  go_wp2_with fail
  (with_reducible refine (spec_MeasureW x3 _ hx4.1 hx4.2).mono ?_)
  rintro e w4 ⟨t, ht, rfl, hb1⟩
  replace S := Lib.hid (S.out.bw hb1)
  replace G : w.grownBy w4 (some g) := Gr.bw G hb1
  replace zG := G.size
  clear hb1 hx4
  go_wp2_with fail
  (with_reducible refine (spec_Next g 4 _ (by (repeat (first | exact S.out | with_reducible refine Src.al ?_ _ | with_reducible refine Src.dr ?_ _ | with_reducible refine Src.drw ?_ | ((with_reducible refine Src.new ?_ ?_ _ _); rotate_left; focus omega)))) (by omega)).mono ?_)
  rintro e w5 ⟨x5, hx5, rfl, hs, hg⟩
  replace G : w.grownBy w5 (some g) := Gr.tr (by (repeat (first | exact G | with_reducible refine Gr.al ?_ _ | with_reducible refine Gr.dr ?_ _ | with_reducible refine Gr.drw ?_ | ((with_reducible refine Gr.new ?_ ?_ _ _); rotate_left; focus omega)))) hg
  clear S
  have S := Lib.hid hs
  have zG := G.size
  clear hs hg
  clear hx5
  rcases e0 : (x5 == 0) with _ | _
  · rcases e1 : (x5 == 1) with _ | _
    · replace bb := Gr.below bb G (by omega) (by omega)
      go_wp2_with fail
      go_ret
      exact ⟨_, by omega, rfl, bb⟩
    · go_wp2_with fail
      (with_reducible refine (spec_Next g 6 _ (by (repeat (first | exact S.out | with_reducible refine Src.al ?_ _ | with_reducible refine Src.dr ?_ _ | with_reducible refine Src.drw ?_ | ((with_reducible refine Src.new ?_ ?_ _ _); rotate_left; focus omega)))) (by omega)).mono ?_)
      rintro e w6 ⟨k, hk, rfl, hs, hg⟩
      obtain ⟨k, rfl⟩ : ∃ j : Nat, k = (j : Int) := ⟨Int.toNat k, by have := hk.1; omega⟩
      have hx2 : k < 6 := by have := hk.2; omega
      have hk := cell_gr (cell_new _ _ _) (by simp) (by first | omega | (simp; done) | (simp; omega)) hg k
      obtain ⟨t2, ht2, hsz⟩ := strs_at (n := 6) (m := 20) hk (by intro k hk; rcases k with _ | _ | _ | _ | _ | _ | _ | _ | k <;> first | exact ⟨_, rfl, by decide⟩ | omega) hx2
      clear hk
      replace G : w.grownBy w6 (some g) := Gr.tr (by (repeat (first | exact G | with_reducible refine Gr.al ?_ _ | with_reducible refine Gr.dr ?_ _ | with_reducible refine Gr.drw ?_ | ((with_reducible refine Gr.new ?_ ?_ _ _); rotate_left; focus omega)))) hg
      clear S hk
      have S := Lib.hid hs
      have zG := G.size
      clear hs hg
      replace bb := Gr.below bb G (by omega) (by omega)
      go_wp2_with fail
      go_ret
      exact ⟨_, by omega, rfl, bb⟩
  · go_wp2_with fail
    (with_reducible refine (spec_Damage g t _ (by (repeat (first | exact S.out | with_reducible refine Src.al ?_ _ | with_reducible refine Src.dr ?_ _ | with_reducible refine Src.drw ?_ | ((with_reducible refine Src.new ?_ ?_ _ _); rotate_left; focus omega)))) (by omega)).mono ?_)
    rintro e w6 ⟨t2, ht2, rfl, hs, hg⟩
    replace G : w.grownBy w6 (some g) := Gr.tr (by (repeat (first | exact G | with_reducible refine Gr.al ?_ _ | with_reducible refine Gr.dr ?_ _ | with_reducible refine Gr.drw ?_ | ((with_reducible refine Gr.new ?_ ?_ _ _); rotate_left; focus omega)))) hg
    replace bb := Gr.below bb G (by omega) (by omega)
    go_wp2_with fail
    go_ret
    exact ⟨_, by omega, rfl, bb⟩
/-- What both give for a text: the measure and the code. -/
def RdMs (s : ByteArray) (a c : Int) : Prop := (c = 0 ∧ isVal a = true ∧ mesB a = s) ∨ (a = 0 ∧ c = 6 ∧ ∀ a, isVal a = true → mesB a ≠ s)
theorem rdMs_get (s : ByteArray) : ∃ a c, RdMs s a c := by
  by_cases h : ∃ a, isVal a = true ∧ mesB a = s
  · obtain ⟨a, h1, h2⟩ := h
    exact ⟨a, 0, .inl ⟨rfl, h1, h2⟩⟩
  · exact ⟨0, 6, .inr ⟨rfl, rfl, fun a h1 h2 => h ⟨a, h1, h2⟩⟩⟩
theorem impl_ReadMeasure {s : ByteArray} {a c : Int} (w : World) (hs : s.size ≤ 1048576) (h : RdMs s a c) :
    Calls Try.prog 84 #[.string s] w fun e w' => e = .returned (.tuple #[.int .i64 a, .int .i64 c]) ∧ Below w.heap.size w w' := by
  rcases h with ⟨rfl, h1, h2⟩ | ⟨rfl, rfl, h⟩
  · exact impl_ReadMeasure_y s a w h1 h2
  · exact impl_ReadMeasure_n s w hs h
theorem spec_ReadMeasure {s : ByteArray} {a c : Int} (w : World) (hs : s.size ≤ 1048576) (h : RdMs s a c) :
    Calls Try.prog 85 #[.string s] w fun e w' => e = .returned (.tuple #[.int .i64 a, .int .i64 c]) ∧ Below w.heap.size w w' := by
  rcases h with ⟨rfl, h1, h2⟩ | ⟨rfl, rfl, h⟩
  · exact spec_ReadMeasure_y s a w h1 h2
  · exact spec_ReadMeasure_n s w hs h

end Go.Proofs.Ytpejbmfapdocaaa
