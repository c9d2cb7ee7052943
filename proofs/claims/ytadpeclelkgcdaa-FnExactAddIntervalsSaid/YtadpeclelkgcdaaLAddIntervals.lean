/- The law FnExactAddIntervals, walked: it returns true and leaves old memory alone. No condition. -/
import Derived.Test.YtadpeclelkgcdaaIvAdd
import Derived.Test.YtadpeclelkgcdaaIvT
namespace Go.Proofs.Ytadpeclelkgcdaa
open Go.RowKit

set_option maxHeartbeats 4000000 in
theorem law_AddIntervals (a b c d : Int) (w : World) :
    Calls Try.prog 7 #[.agg #[.int .i64 a, .int .i64 b], .agg #[.int .i64 c, .int .i64 d]] w fun e w' => e = .returned (.bool true) ∧ Below w.heap.size w w' := by
  go_enter Try.func7, Try.ntmps7
  go_upto_region 1 with fail
  have bX : Below w.heap.size w ((w.alloc (.cells #[.int .i64 a, .int .i64 b] 24)).alloc (.cells #[.int .i64 c, .int .i64 d] 24)) := by (repeat (first | exact Below.refl _ _ | assumption | refine Bw.set ?_ (by omega) | refine Bw.al ?_ (by first | omega | (simp; done) | (simp; omega)) | refine Below.drew ?_ | refine Bw.dr ?_ _))
  have c1 := cell_alloc (cell_new w #[.int .i64 a, .int .i64 b] 24) (by simp) (.cells #[.int .i64 c, .int .i64 d] 24)
  have c2 := cell_new (w.alloc (.cells #[.int .i64 a, .int .i64 b] 24)) #[.int .i64 c, .int .i64 d] 24
  simp only [World.size_alloc] at c2
  generalize (w.alloc (.cells #[.int .i64 a, .int .i64 b] 24)).alloc (.cells #[.int .i64 c, .int .i64 d] 24) = X at *
  have zX := bX.size
  go_cut [5, 6] (fun s5 s6 wx => ∃ g : Nat, s5 = .pointer (some ⟨g, 0, none⟩) ∧ s6 = .int .i64 (addIv a b c d).2.2 ∧ (∀ i, wx.cell? ⟨g, i, none⟩ = #[Value.int .i64 (addIv a b c d).1, .int .i64 (addIv a b c d).2.1][i]?) ∧ Below X.heap.size X wx)
  case first =>
    go_region_held3 (fun w' => w'.cell? ⟨w.heap.size, 0, none⟩ = some (.int .i64 a) ∧ w'.cell? ⟨w.heap.size, 1, none⟩ = some (.int .i64 b) ∧ w'.cell? ⟨w.heap.size + 1, 0, none⟩ = some (.int .i64 c) ∧ w'.cell? ⟨w.heap.size + 1, 1, none⟩ = some (.int .i64 d) ∧ Below X.heap.size X w')
      (exact two_held c1 c2 (by (repeat (first | exact Below.refl _ _ | assumption | refine Bw.set ?_ (by omega) | refine Bw.al ?_ (by first | omega | (simp; done) | (simp; omega)) | refine Below.drew ?_ | refine Bw.dr ?_ _))))
      (first | (go_at_call 16; refine (toInterval_any _ _ _).mono ?_; rintro e w' ⟨rfl, hb⟩; have hkb : Below X.heap.size X w' := Below.trans (by (repeat (first | exact Below.refl _ _ | assumption | refine Bw.set ?_ (by omega) | refine Bw.al ?_ (by first | omega | (simp; done) | (simp; omega)) | refine Below.drew ?_ | refine Bw.dr ?_ _))) (hb.mono (by first | omega | (simp; done) | (simp; omega))); have hkz := hkb.size; first | (have hl := lt_cell hn1 (by simp); replace hn1 := cell_kept hb hl hn1; replace hn2 := frz_kept hb hl hn2; clear hl) | (have hn := kept1 hb; obtain ⟨hn1, hn2, hn3, hn4⟩ := hn) | (have hn := kept1 (undrew hb); obtain ⟨hn1, hn2, hn3, hn4⟩ := hn) | skip) | (go_at_call 23; refine (spec_AddIntervals _ _ _ _ _).mono ?_; rintro e w' ⟨rfl, hb⟩; have hkb : Below X.heap.size X w' := Below.trans (by (repeat (first | exact Below.refl _ _ | assumption | refine Bw.set ?_ (by omega) | refine Bw.al ?_ (by first | omega | (simp; done) | (simp; omega)) | refine Below.drew ?_ | refine Bw.dr ?_ _))) (hb.mono (by first | omega | (simp; done) | (simp; omega))); have hkz := hkb.size; first | (have hl := lt_cell hn1 (by simp); replace hn1 := cell_kept hb hl hn1; replace hn2 := frz_kept hb hl hn2; clear hl) | (have hn := kept1 hb; obtain ⟨hn1, hn2, hn3, hn4⟩ := hn) | (have hn := kept1 (undrew hb); obtain ⟨hn1, hn2, hn3, hn4⟩ := hn) | skip))
    all_goals (go_wp2_with fail; go_meet; exact ⟨_, rfl, rfl, (by first | exact cell_new _ _ _ | exact cell_set2 hn1), (by (repeat (first | exact Below.refl _ _ | assumption | refine Bw.set ?_ (by omega) | refine Bw.al ?_ (by first | omega | (simp; done) | (simp; omega)) | refine Below.drew ?_ | refine Bw.dr ?_ _)))⟩)
  case rest =>
    obtain ⟨g, rfl, rfl, k1, b1⟩ := hcut
    have l1 := b1.size
    replace c1 := cell_kept b1 (lt_cell c1 (by simp)) c1
    replace c2 := cell_kept b1 (lt_cell c2 (by simp)) c2
    have hg := lt_cell k1 (by simp)
    go_upto_region 2 with fail
    go_cut [7, 8] (fun s7 s8 wx => ∃ g : Nat, s7 = .pointer (some ⟨g, 0, none⟩) ∧ s8 = .int .i64 (addIv a b c d).2.2 ∧ (∀ i, wx.cell? ⟨g, i, none⟩ = #[Value.int .i64 (addIv a b c d).1, .int .i64 (addIv a b c d).2.1][i]?) ∧ Below wc.heap.size wc wx)
    case first =>
      go_region_held3 (fun w' => w'.cell? ⟨w.heap.size, 0, none⟩ = some (.int .i64 a) ∧ w'.cell? ⟨w.heap.size, 1, none⟩ = some (.int .i64 b) ∧ w'.cell? ⟨w.heap.size + 1, 0, none⟩ = some (.int .i64 c) ∧ w'.cell? ⟨w.heap.size + 1, 1, none⟩ = some (.int .i64 d) ∧ Below wc.heap.size wc w')
        (exact two_held c1 c2 (by (repeat (first | exact Below.refl _ _ | assumption | refine Bw.set ?_ (by omega) | refine Bw.al ?_ (by first | omega | (simp; done) | (simp; omega)) | refine Below.drew ?_ | refine Bw.dr ?_ _))))
        (first | (go_at_call 16; refine (toInterval_any _ _ _).mono ?_; rintro e w' ⟨rfl, hb⟩; have hkb : Below wc.heap.size wc w' := Below.trans (by (repeat (first | exact Below.refl _ _ | assumption | refine Bw.set ?_ (by omega) | refine Bw.al ?_ (by first | omega | (simp; done) | (simp; omega)) | refine Below.drew ?_ | refine Bw.dr ?_ _))) (hb.mono (by first | omega | (simp; done) | (simp; omega))); have hkz := hkb.size; first | (have hl := lt_cell hn1 (by simp); replace hn1 := cell_kept hb hl hn1; replace hn2 := frz_kept hb hl hn2; clear hl) | (have hn := kept1 hb; obtain ⟨hn1, hn2, hn3, hn4⟩ := hn) | (have hn := kept1 (undrew hb); obtain ⟨hn1, hn2, hn3, hn4⟩ := hn) | skip) | (go_at_call 24; refine (impl_AddIntervals _ _ _ _ _).mono ?_; rintro e w' ⟨rfl, hb⟩; have hkb : Below wc.heap.size wc w' := Below.trans (by (repeat (first | exact Below.refl _ _ | assumption | refine Bw.set ?_ (by omega) | refine Bw.al ?_ (by first | omega | (simp; done) | (simp; omega)) | refine Below.drew ?_ | refine Bw.dr ?_ _))) (hb.mono (by first | omega | (simp; done) | (simp; omega))); have hkz := hkb.size; first | (have hl := lt_cell hn1 (by simp); replace hn1 := cell_kept hb hl hn1; replace hn2 := frz_kept hb hl hn2; clear hl) | (have hn := kept1 hb; obtain ⟨hn1, hn2, hn3, hn4⟩ := hn) | (have hn := kept1 (undrew hb); obtain ⟨hn1, hn2, hn3, hn4⟩ := hn) | skip))
      all_goals (go_wp2_with fail; go_meet; exact ⟨_, rfl, rfl, (by first | exact cell_new _ _ _ | exact cell_set2 hn1), (by (repeat (first | exact Below.refl _ _ | assumption | refine Bw.set ?_ (by omega) | refine Bw.al ?_ (by first | omega | (simp; done) | (simp; omega)) | refine Below.drew ?_ | refine Bw.dr ?_ _)))⟩)
    case rest =>
      rename_i wd
      obtain ⟨g', rfl, rfl, k2, b2⟩ := hcut
      have l2 := b2.size
      replace k1 := cell_kept b2 hg k1
      replace bX := (bX.trans (b1.mono zX)).trans (b2.mono (by omega))
      go_wp2_with fail
      refine (eqInterval_same _ _ _).mono ?_
      rintro e w5 ⟨rfl, hb5⟩
      replace bb : Below w.heap.size w w5 := Below.trans (by (repeat (first | exact Below.refl _ _ | assumption | refine Bw.set ?_ (by omega) | refine Bw.al ?_ (by first | omega | (simp; done) | (simp; omega)) | refine Below.drew ?_ | refine Bw.dr ?_ _))) (hb5.mono (by first | omega | (simp; done) | (simp; omega)))
      go_wp2_with fail
      go_ret
      exact ⟨rfl, by (repeat (first | exact Below.refl _ _ | assumption | refine Bw.set ?_ (by omega) | refine Bw.al ?_ (by first | omega | (simp; done) | (simp; omega)) | refine Below.drew ?_ | refine Bw.dr ?_ _))⟩

end Go.Proofs.Ytadpeclelkgcdaa
