/- Texts drawn: measures, intervals, damaged texts. Conditions: those that each theorem names. -/
import Derived.Test.YtpejbmfapdocaaaDr
import Derived.Test.YtpejbmfapdocaaaMes
namespace Go.Proofs.Ytpejbmfapdocaaa
open Go.RowKit

/-- What a draw of a text hands back: a text of at most n bytes; the source alone was written. -/
def StrP (g n : Nat) (w : World) (e : Ending) (w' : World) : Prop := ∃ t : ByteArray, t.size ≤ n ∧ e = .returned (.string t) ∧ Src w' g ∧ w.grownBy w' (some g)
def StrD (n : Nat) (v : World) (e : Ending) (w' : World) : Prop := ∃ t : ByteArray, t.size ≤ n ∧ e = .returned (.string t) ∧ Below v.heap.size v w'
theorem strs_at {n m k : Nat} {cs : Array Value} {X : Option Value} (hX : X = cs[k]?) (h : ∀ k, k < n → ∃ t : ByteArray, cs[k]? = some (.string t) ∧ t.size ≤ m) (hk : k < n) : ∃ t : ByteArray, X = some (.string t) ∧ t.size ≤ m := by
  rw [hX]; exact h k hk
set_option maxRecDepth 100000 in
set_option maxHeartbeats 4000000 in
theorem spec_DrawValue (g : Nat) (w : World) (hs : Src w g) : Calls Try.prog 142 #[.pointer (some ⟨g, 0, none⟩)] w (NumP g (fun _ => True) w) := by
  have hgw := hs.lt
  have S := Lib.hid hs
  have G := Gr.refl w g
  have zG := G.size
  clear hs
  go_enter Try.func142, Try.ntmps142
  go_upto_region 1 with fail
  go_wp2_with fail
  (with_reducible refine (spec_Next g 10 _ (by (repeat (first | exact S.out | with_reducible refine Src.al ?_ _ | with_reducible refine Src.dr ?_ _ | with_reducible refine Src.drw ?_ | ((with_reducible refine Src.new ?_ ?_ _ _); rotate_left; focus omega)))) (by omega)).mono ?_)
  rintro e w1 ⟨x, hx, rfl, hs, hg⟩
  replace G : w.grownBy w1 (some g) := Gr.tr (by (repeat (first | exact G | with_reducible refine Gr.al ?_ _ | with_reducible refine Gr.dr ?_ _ | with_reducible refine Gr.drw ?_ | ((with_reducible refine Gr.new ?_ ?_ _ _); rotate_left; focus omega)))) hg
  clear S
  have S := Lib.hid hs
  have zG := G.size
  clear hs hg
  clear hx
  rcases e0 : (x == 0) with _ | _
  · go_wp2_with fail
    (with_reducible refine (spec_Next g 41 _ (by (repeat (first | exact S.out | with_reducible refine Src.al ?_ _ | with_reducible refine Src.dr ?_ _ | with_reducible refine Src.drw ?_ | ((with_reducible refine Src.new ?_ ?_ _ _); rotate_left; focus omega)))) (by omega)).mono ?_)
    rintro e w2 ⟨x1, hx1, rfl, hs, hg⟩
    replace G : w.grownBy w2 (some g) := Gr.tr (by (repeat (first | exact G | with_reducible refine Gr.al ?_ _ | with_reducible refine Gr.dr ?_ _ | with_reducible refine Gr.drw ?_ | ((with_reducible refine Gr.new ?_ ?_ _ _); rotate_left; focus omega)))) hg
    clear S
    have S := Lib.hid hs
    have zG := G.size
    clear hs hg
    go_wp2_with fail
    (with_reducible refine (spec_Next g 2001 _ (by (repeat (first | exact S.out | with_reducible refine Src.al ?_ _ | with_reducible refine Src.dr ?_ _ | with_reducible refine Src.drw ?_ | ((with_reducible refine Src.new ?_ ?_ _ _); rotate_left; focus omega)))) (by omega)).mono ?_)
    rintro e w3 ⟨x2, hx2, rfl, hs, hg⟩
    replace G : w.grownBy w3 (some g) := Gr.tr (by (repeat (first | exact G | with_reducible refine Gr.al ?_ _ | with_reducible refine Gr.dr ?_ _ | with_reducible refine Gr.drw ?_ | ((with_reducible refine Gr.new ?_ ?_ _ _); rotate_left; focus omega)))) hg
    clear S
    have S := Lib.hid hs
    have zG := G.size
    clear hs hg
    go_wp2_with fail
    (with_reducible refine (spec_Next g 2000000001 _ (by (repeat (first | exact S.out | with_reducible refine Src.al ?_ _ | with_reducible refine Src.dr ?_ _ | with_reducible refine Src.drw ?_ | ((with_reducible refine Src.new ?_ ?_ _ _); rotate_left; focus omega)))) (by omega)).mono ?_)
    rintro e w4 ⟨x3, hx3, rfl, hs, hg⟩
    replace G : w.grownBy w4 (some g) := Gr.tr (by (repeat (first | exact G | with_reducible refine Gr.al ?_ _ | with_reducible refine Gr.dr ?_ _ | with_reducible refine Gr.drw ?_ | ((with_reducible refine Gr.new ?_ ?_ _ _); rotate_left; focus omega)))) hg
    clear S
    have S := Lib.hid hs
    have zG := G.size
    clear hs hg
    clear hx1 hx2 hx3
    go_wp2_with fail
    (refine (spec_PickN g _ 3 _ [_, _, _] _ (by (repeat (first | exact S.out | with_reducible refine Src.al ?_ _ | with_reducible refine Src.dr ?_ _ | with_reducible refine Src.drw ?_ | ((with_reducible refine Src.new ?_ ?_ _ _); rotate_left; focus omega)))) rfl (by decide) (cell_new _ _ _) (by first | omega | (simp; omega))).mono ?_)
    rintro e w5 ⟨x4, hx4, rfl, hs, hg⟩
    replace G : w.grownBy w5 (some g) := Gr.tr (by (repeat (first | exact G | with_reducible refine Gr.al ?_ _ | with_reducible refine Gr.dr ?_ _ | with_reducible refine Gr.drw ?_ | ((with_reducible refine Gr.new ?_ ?_ _ _); rotate_left; focus omega)))) hg
    clear S
    have S := Lib.hid hs
    have zG := G.size
    clear hs hg
    clear hx4
    go_wp2_with fail
    go_ret
    exact ⟨_, trivial, rfl, by (repeat (first | exact S.out | with_reducible refine Src.al ?_ _ | with_reducible refine Src.dr ?_ _ | with_reducible refine Src.drw ?_ | ((with_reducible refine Src.new ?_ ?_ _ _); rotate_left; focus omega))), by (repeat (first | exact G | with_reducible refine Gr.al ?_ _ | with_reducible refine Gr.dr ?_ _ | with_reducible refine Gr.drw ?_ | ((with_reducible refine Gr.new ?_ ?_ _ _); rotate_left; focus omega)))⟩
  · go_wp2_with fail
    (refine (spec_PickN g _ 6 _ [_, _, _, _, _, _] _ (by (repeat (first | exact S.out | with_reducible refine Src.al ?_ _ | with_reducible refine Src.dr ?_ _ | with_reducible refine Src.drw ?_ | ((with_reducible refine Src.new ?_ ?_ _ _); rotate_left; focus omega)))) rfl (by decide) (cell_new _ _ _) (by first | omega | (simp; omega))).mono ?_)
    rintro e w2 ⟨x4, hx4, rfl, hs, hg⟩
    replace G : w.grownBy w2 (some g) := Gr.tr (by (repeat (first | exact G | with_reducible refine Gr.al ?_ _ | with_reducible refine Gr.dr ?_ _ | with_reducible refine Gr.drw ?_ | ((with_reducible refine Gr.new ?_ ?_ _ _); rotate_left; focus omega)))) hg
    clear S
    have S := Lib.hid hs
    have zG := G.size
    clear hs hg
    clear hx4
    go_wp2_with fail
    go_ret
    exact ⟨_, trivial, rfl, by (repeat (first | exact S.out | with_reducible refine Src.al ?_ _ | with_reducible refine Src.dr ?_ _ | with_reducible refine Src.drw ?_ | ((with_reducible refine Src.new ?_ ?_ _ _); rotate_left; focus omega))), by (repeat (first | exact G | with_reducible refine Gr.al ?_ _ | with_reducible refine Gr.dr ?_ _ | with_reducible refine Gr.drw ?_ | ((with_reducible refine Gr.new ?_ ?_ _ _); rotate_left; focus omega)))⟩
set_option maxRecDepth 100000 in
set_option maxHeartbeats 4000000 in
theorem spec_Damage (g : Nat) (s : ByteArray) (w : World) (hs : Src w g) (hn : s.size ≤ 100000) : Calls Try.prog 105 #[.pointer (some ⟨g, 0, none⟩), .string s] w (StrP g (s.size + 1) w) := by
  have hgw := hs.lt
  have S := Lib.hid hs
  have G := Gr.refl w g
  have zG := G.size
  clear hs
  go_enter Try.func105, Try.ntmps105
  go_upto_region 1 with fail
  go_wp2_with fail
  (with_reducible refine (spec_Next g (s.size + 1) _ (by (repeat (first | exact S.out | with_reducible refine Src.al ?_ _ | with_reducible refine Src.dr ?_ _ | with_reducible refine Src.drw ?_ | ((with_reducible refine Src.new ?_ ?_ _ _); rotate_left; focus omega)))) (by omega)).mono ?_)
  rintro e w1 ⟨k, hk, rfl, hs, hg⟩
  replace G : w.grownBy w1 (some g) := Gr.tr (by (repeat (first | exact G | with_reducible refine Gr.al ?_ _ | with_reducible refine Gr.dr ?_ _ | with_reducible refine Gr.drw ?_ | ((with_reducible refine Gr.new ?_ ?_ _ _); rotate_left; focus omega)))) hg
  clear S
  have S := Lib.hid hs
  have zG := G.size
  clear hs hg
  obtain ⟨k, rfl⟩ : ∃ j : Nat, k = (j : Int) := ⟨k.toNat, by have := hk.1; omega⟩
  have hk1 : k ≤ s.size := by have := hk.2; omega
  clear hk
  go_wp2_with fail
  (with_reducible refine (spec_Next g 8 _ (by (repeat (first | exact S.out | with_reducible refine Src.al ?_ _ | with_reducible refine Src.dr ?_ _ | with_reducible refine Src.drw ?_ | ((with_reducible refine Src.new ?_ ?_ _ _); rotate_left; focus omega)))) (by omega)).mono ?_)
  rintro e w2 ⟨x, hx, rfl, hs, hg⟩
  replace G : w.grownBy w2 (some g) := Gr.tr (by (repeat (first | exact G | with_reducible refine Gr.al ?_ _ | with_reducible refine Gr.dr ?_ _ | with_reducible refine Gr.drw ?_ | ((with_reducible refine Gr.new ?_ ?_ _ _); rotate_left; focus omega)))) hg
  clear S
  have S := Lib.hid hs
  have zG := G.size
  clear hs hg
  clear hx
  rcases e0 : (x == 0) with _ | _
  · rcases e1 : (x == 1) with _ | _
    · rcases e2 : (x == 2) with _ | _
      · go_wp2_with fail
        go_ret
        exact ⟨_, by omega, rfl, by (repeat (first | exact S.out | with_reducible refine Src.al ?_ _ | with_reducible refine Src.dr ?_ _ | with_reducible refine Src.drw ?_ | ((with_reducible refine Src.new ?_ ?_ _ _); rotate_left; focus omega))), by (repeat (first | exact G | with_reducible refine Gr.al ?_ _ | with_reducible refine Gr.dr ?_ _ | with_reducible refine Gr.drw ?_ | ((with_reducible refine Gr.new ?_ ?_ _ _); rotate_left; focus omega)))⟩
      · by_cases hlt : k < s.size
        · have g1 : decide ((k : Int) < s.size) = true := decide_eq_true (by omega)
          have q1 : IntKind.i64.wrap ((k : Int) + 1) = (k : Int) + 1 := IntWalk.i64_in _ (by omega)
          have q2 : ((k : Int) + 1).toNat = k + 1 := by omega
          have q3 : (0 : Int) ≤ (k : Int) + 1 := by omega
          have q4 : (k : Int) + 1 ≤ s.size := by omega
          have q5 : (k : Int) ≤ s.size := by omega
          go_upto_region 9 with fail
          go_quiet (fail)
          go_wp2_with fail
          go_ret
          exact ⟨_, by simp [ByteArray.size_append, ByteArray.size_extract]; omega, rfl, by (repeat (first | exact S.out | with_reducible refine Src.al ?_ _ | with_reducible refine Src.dr ?_ _ | with_reducible refine Src.drw ?_ | ((with_reducible refine Src.new ?_ ?_ _ _); rotate_left; focus omega))), by (repeat (first | exact G | with_reducible refine Gr.al ?_ _ | with_reducible refine Gr.dr ?_ _ | with_reducible refine Gr.drw ?_ | ((with_reducible refine Gr.new ?_ ?_ _ _); rotate_left; focus omega)))⟩
        · have g1 : decide ((k : Int) < s.size) = false := decide_eq_false (by omega)
          go_wp2_with fail
          go_ret
          exact ⟨_, by omega, rfl, by (repeat (first | exact S.out | with_reducible refine Src.al ?_ _ | with_reducible refine Src.dr ?_ _ | with_reducible refine Src.drw ?_ | ((with_reducible refine Src.new ?_ ?_ _ _); rotate_left; focus omega))), by (repeat (first | exact G | with_reducible refine Gr.al ?_ _ | with_reducible refine Gr.dr ?_ _ | with_reducible refine Gr.drw ?_ | ((with_reducible refine Gr.new ?_ ?_ _ _); rotate_left; focus omega)))⟩
    · have q5 : (k : Int) ≤ s.size := by omega
      go_upto_region 6 with fail
      go_region_with (first | (go_at_call 104; (with_reducible refine (spec_Next g _ _ (by (repeat (first | exact S.out | with_reducible refine Src.al ?_ _ | with_reducible refine Src.dr ?_ _ | with_reducible refine Src.drw ?_ | ((with_reducible refine Src.new ?_ ?_ _ _); rotate_left; focus omega)))) (by omega)).mono ?_); rintro e w3 ⟨j, hj, rfl, hs, hg⟩; (try replace hg := Gr.un hg); obtain ⟨j, rfl⟩ : ∃ i : Nat, j = (i : Int) := ⟨j.toNat, by have := hj.1; omega⟩; have hx2 : j < 8 := (by have := hj.2; omega); have hx3 : (j : Int) < 8 := (by omega); have hk := cell_gr (cell_new _ _ _) (by simp) (by first | omega | (simp; done) | (simp; omega)) hg j; obtain ⟨t, ht, hsz⟩ := strs_at (n := 8) (m := 1) hk (by intro k hk; rcases k with _ | _ | _ | _ | _ | _ | _ | _ | k <;> first | exact ⟨_, rfl, by decide⟩ | omega) hx2; clear hk; replace G : w.grownBy w3 (some g) := Gr.tr (by (repeat (first | exact G | with_reducible refine Gr.al ?_ _ | with_reducible refine Gr.dr ?_ _ | with_reducible refine Gr.drw ?_ | ((with_reducible refine Gr.new ?_ ?_ _ _); rotate_left; focus omega)))) hg; replace S := Lib.hid hs; clear hj hs hg) | (go_at_call 104; (with_reducible refine (spec_Next g _ _ (by (repeat (first | exact S.out | with_reducible refine Src.al ?_ _ | with_reducible refine Src.dr ?_ _ | with_reducible refine Src.drw ?_ | ((with_reducible refine Src.new ?_ ?_ _ _); rotate_left; focus omega)))) (by omega)).mono ?_); rintro e w3 ⟨j, hj, rfl, hs, hg⟩; (try replace hg := Gr.un hg); obtain ⟨j, rfl⟩ : ∃ i : Nat, j = (i : Int) := ⟨j.toNat, by have := hj.1; omega⟩; have hx2 : j < 8 := (by have := hj.2; omega); have hx3 : (j : Int) < 8 := (by omega); obtain ⟨t, ht0, hsz⟩ := strs_at (n := 8) (m := 1) (k := j) (cs := #[Value.string { data := #[48] }, Value.string { data := #[35] }, Value.string { data := #[46] }, Value.string { data := #[47] }, Value.string { data := #[32] }, Value.string { data := #[97] }, Value.string { data := #[45] }, Value.string { data := #[10] }]) rfl (by intro k hk; rcases k with _ | _ | _ | _ | _ | _ | _ | _ | k <;> first | exact ⟨_, rfl, by decide⟩ | omega) hx2; have ht : ∀ T, (w3.alloc (.cells #[Value.string { data := #[48] }, Value.string { data := #[35] }, Value.string { data := #[46] }, Value.string { data := #[47] }, Value.string { data := #[32] }, Value.string { data := #[97] }, Value.string { data := #[45] }, Value.string { data := #[10] }] T)).cell? ⟨w3.heap.size, j, none⟩ = some (.string t) := (fun T => (cell_new w3 _ T j).trans ht0); clear ht0; replace G : w.grownBy w3 (some g) := Gr.tr (by (repeat (first | exact G | with_reducible refine Gr.al ?_ _ | with_reducible refine Gr.dr ?_ _ | with_reducible refine Gr.drw ?_ | ((with_reducible refine Gr.new ?_ ?_ _ _); rotate_left; focus omega)))) hg; replace S := Lib.hid hs; clear hj hs hg))
      all_goals
        go_wp2_with fail
        go_ret
        exact ⟨_, by simp [ByteArray.size_append, ByteArray.size_extract]; omega, rfl, by (repeat (first | exact S.out | with_reducible refine Src.al ?_ _ | with_reducible refine Src.dr ?_ _ | with_reducible refine Src.drw ?_ | ((with_reducible refine Src.new ?_ ?_ _ _); rotate_left; focus omega))), by (repeat (first | exact G | with_reducible refine Gr.al ?_ _ | with_reducible refine Gr.dr ?_ _ | with_reducible refine Gr.drw ?_ | ((with_reducible refine Gr.new ?_ ?_ _ _); rotate_left; focus omega)))⟩
  · go_wp2_with fail
    go_ret
    exact ⟨_, by simp; omega, rfl, by (repeat (first | exact S.out | with_reducible refine Src.al ?_ _ | with_reducible refine Src.dr ?_ _ | with_reducible refine Src.drw ?_ | ((with_reducible refine Src.new ?_ ?_ _ _); rotate_left; focus omega))), by (repeat (first | exact G | with_reducible refine Gr.al ?_ _ | with_reducible refine Gr.dr ?_ _ | with_reducible refine Gr.drw ?_ | ((with_reducible refine Gr.new ?_ ?_ _ _); rotate_left; focus omega)))⟩
set_option maxHeartbeats 2000000 in
theorem spec_MeasureW_p (n : Int) (w : World) (h0 : 0 ≤ n) (h1 : n ≤ 10000000000000) : Calls Try.prog 145 #[.int .i64 n] w fun e w' => e = .returned (.string (mesU n)) ∧ Below w.heap.size w w' := by
  rw [mesU]
  have s1 := decI_size (n := n / 10) (by omega)
  have s2 := decI_size (n := n % 10) (by omega)
  go_enter Try.func145, Try.ntmps145
  go_wp2_with fail
  (with_reducible refine (spec_Dec (n / 10) _ (by omega) (by omega)).mono ?_)
  rintro e w1 ⟨rfl, hb1⟩
  go_wp2_with fail
  (with_reducible refine (spec_Dec (n % 10) _ (by omega) (by omega)).mono ?_)
  rintro e w2 ⟨rfl, hb2⟩
  go_wp2_with fail
  go_ret
  exact ⟨rfl, hb1.trans (hb2.mono hb1.size)⟩
theorem mesU_sizeW {u : Int} (h0 : 0 ≤ u) (h1 : u ≤ 10000000000000) : (mesU u).size ≤ 40 := by
  have := mesU_size (u := u)
  have := decI_size (n := u / 10) (by omega)
  omega
def MesW (w : World) (e : Ending) (w' : World) : Prop := ∃ t : ByteArray, t.size ≤ 50 ∧ e = .returned (.string t) ∧ Below w.heap.size w w'
set_option maxHeartbeats 2000000 in
theorem spec_MeasureW (n : Int) (w : World) (h0 : -10000000000000 ≤ n) (h1 : n ≤ 10000000000000) : Calls Try.prog 145 #[.int .i64 n] w (MesW w) := by
  rcases Int.lt_or_le n 0 with hn | hn
  · have s1 := mesU_sizeW (u := -n) (by omega) (by omega)
    go_enter Try.func145, Try.ntmps145
    go_wp2_with fail
    (with_reducible refine (spec_MeasureW_p (-n) _ (by omega) (by omega)).mono ?_)
    rintro e w1 ⟨rfl, hb1⟩
    go_wp2_with fail
    go_ret
    refine ⟨_, ?_, rfl, hb1⟩
    rw [ByteArray.size_append]
    have e : ({ data := #[45] } : ByteArray).size = 1 := rfl
    omega
  · refine (spec_MeasureW_p n w hn h1).mono ?_
    rintro e w1 ⟨rfl, hb1⟩
    exact ⟨_, by have := mesU_sizeW hn h1; omega, rfl, hb1⟩

end Go.Proofs.Ytpejbmfapdocaaa
