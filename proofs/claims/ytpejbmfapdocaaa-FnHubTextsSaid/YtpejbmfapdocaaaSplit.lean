/- Texts split at a byte. Condition: the text has at most 1048576 bytes. -/
import Derived.Test.YtpejbmfapdocaaaOwn
namespace Go.Proofs.Ytpejbmfapdocaaa
open Go.RowKit

/-- The pieces that end ahead of the i-th byte, and where the next one begins. -/
def spl (s : ByteArray) (b : Int) : Nat → List ByteArray × Nat
  | 0 => ([], 0)
  | i + 1 => if bAt s i = b then ((spl s b i).1 ++ [s.extract (spl s b i).2 i], i + 1) else spl s b i
def splitB (s : ByteArray) (b : Int) : List ByteArray := (spl s b s.size).1 ++ [s.extract (spl s b s.size).2 s.size]
theorem spl_le (s : ByteArray) (b : Int) : ∀ i, (spl s b i).2 ≤ i ∧ (spl s b i).1.length ≤ i
  | 0 => by simp [spl]
  | i + 1 => by
    have h := spl_le s b i
    rw [spl]
    split
    · simp; omega
    · omega
theorem spl_y {s : ByteArray} {b : Int} {k f : Nat} {ps : List ByteArray} (hk : k < s.size) (e : spl s b k = (ps, f)) (h : ((s[k]'hk).toNat : Int) = b) : spl s b (k + 1) = (ps ++ [s.extract f k], k + 1) := by
  rw [bAt_get hk] at h
  rw [spl, if_pos h, e]
theorem spl_n {s : ByteArray} {b : Int} {k f : Nat} {ps : List ByteArray} (hk : k < s.size) (e : spl s b k = (ps, f)) (h : ¬ ((s[k]'hk).toNat : Int) = b) : spl s b (k + 1) = (ps, f) := by
  rw [bAt_get hk] at h
  rw [spl, if_neg h, e]
theorem splitB_e {s : ByteArray} {b : Int} {f : Nat} {ps : List ByteArray} (e : spl s b s.size = (ps, f)) : splitB s b = ps ++ [s.extract f s.size] := by rw [splitB, e]
theorem spl_small (s : ByteArray) (b : Int) : ∀ i, i ≤ s.size → ∀ p ∈ (spl s b i).1, p.size ≤ s.size
  | 0, _ => by simp [spl]
  | i + 1, hi => by
    rw [spl]
    split
    · intro p hp
      rw [List.mem_append] at hp
      rcases hp with hp | hp
      · exact spl_small s b i (by omega) p hp
      · simp at hp
        subst hp
        simp
        omega
    · exact spl_small s b i (by omega)
theorem splitB_small (s : ByteArray) (b : Int) (k : Nat) : (sAt (splitB s b) k).size ≤ s.size := by
  rcases Nat.lt_or_ge k (splitB s b).length with h | h
  · have hm : sAt (splitB s b) k ∈ splitB s b := by
      simp only [sAt, List.getD_eq_getElem?_getD, List.getElem?_eq_getElem h, Option.getD_some]
      exact List.getElem_mem h
    rw [splitB, List.mem_append] at hm
    rcases hm with hm | hm
    · exact spl_small s b s.size (Nat.le_refl _) _ hm
    · simp at hm
      rw [splitB, hm]
      simp
  · simp [sAt, List.getD_eq_getElem?_getD, List.getElem?_eq_none h]
theorem splitB_len (s : ByteArray) (b : Int) : 1 ≤ (splitB s b).length ∧ (splitB s b).length ≤ s.size + 1 := by
  have := (spl_le s b s.size).2
  simp [splitB]
  omega

set_option maxHeartbeats 4000000 in
theorem impl_splitAt (s : ByteArray) (b : Int) (w : World) (hs : s.size ≤ 1048576) (_hb : 0 ≤ b ∧ b ≤ 255) : Calls Try.prog 106 #[.string s, .int .u8 b] w (OwnStrs w (splitB s b)) := by
  obtain ⟨i0, hi0, hz0, hz1, hz2⟩ := info_parts Try.infoT
  go_enter Try.func106, Try.ntmps106
  go_wp2_with fail
  go_loopw [7, 5, 6] (fun s7 s5 s6 wr => ∃ (k f : Nat) (v : Value) (ps : List ByteArray), k ≤ s.size ∧ f ≤ k ∧ ps.length ≤ k ∧ s7 = .int .i64 k ∧ s6 = .int .i64 f ∧ v = s5 ∧ spl s b k = (ps, f) ∧ wr.ownsRow w.heap.size 9 1 v ps.length (sv ps) ∧ Below w.heap.size w wr) (fun s7 _ _ _ => s.size - (intOf s7).toNat)
  case atStart => exact ⟨0, 0, _, [], Nat.zero_le _, Nat.le_refl _, Nat.le_refl _, rfl, rfl, rfl, rfl, ⟨rfl, .inl ⟨rfl, rfl⟩⟩, by (repeat (first | with_reducible exact Below.refl _ _ | with_reducible assumption | ((with_reducible refine Bw.set ?_ ?_); rotate_left; focus omega) | ((with_reducible refine Bw.al ?_ ?_); rotate_left; focus (first | omega | (simp; done) | (simp; omega))) | with_reducible refine Below.drew ?_ | with_reducible refine Bw.dr ?_ _))⟩
  case round =>
    obtain ⟨k, f, v, ps, hk, hf, hps, rfl, rfl, rfl, he, hown, hbb⟩ := hrel
    have HE := Lib.hid he
    have HW := Lib.hid hown
    have hz := hbb.size
    clear he hown
    by_cases hlt : k < s.size
    · by_cases hc : (s[k].toNat : Int) = b
      · have e1 : ((s[k].toNat : Int) == b) = true := by simp [hc]
        have HY := Lib.hid (spl_y hlt HE.out hc)
        clear hc
        go_wp2_with (at_builtin; (refine wpList_append_lies _ rfl _ _ _ rfl w.heap.size 9 i0 _ 1 16 Try.underlying80 hi0 hz0 hz1 hz2 rfl (by omega) v ps.length (sv ps) rfl (HW.out.alloc _) ⟨wr.heap.size, 0, none⟩ 1 1 [.string (s.extract f k)] rfl rfl (World.news_of_block (heap_alloc_new wr _)) (by simp [Value.oneCell']) (by omega) (by unfold maxLen; omega) (by omega) (by simp; omega) (wr.heap.size + 1) (by simp) ?_; intro g' cap' w3 hown3 hgrow hat hlt'))
        have HW3 := Lib.hid hown3
        clear hown3
        go_roundw
        case rel => exact ⟨k + 1, k + 1, _, _, by omega, by omega, by simp; omega, by go_num, by go_num, rfl, HY.out, by rw [List.length_append, sv_snoc]; exact HW3.out, below_own (w1 := wr.alloc _) HW.out (hbb.alloc (by omega) _) (by simp; omega) hgrow⟩
        case measure => (simp [intOf]; try omega)
      · have e1 : ((s[k].toNat : Int) == b) = false := by simp [hc]
        have HY := Lib.hid (spl_n hlt HE.out hc)
        clear hc
        go_wp2_with fail
        go_roundw
        case rel => exact ⟨k + 1, f, _, ps, by omega, by omega, by omega, by go_num, rfl, rfl, HY.out, HW.out, hbb⟩
        case measure => (simp [intOf]; try omega)
    · obtain rfl : k = s.size := by omega
      have HB := Lib.hid (splitB_e HE.out)
      go_wp2_with (at_builtin; (refine wpList_append_lies _ rfl _ _ _ rfl w.heap.size 9 i0 _ 1 16 Try.underlying80 hi0 hz0 hz1 hz2 rfl (by omega) v ps.length (sv ps) rfl (HW.out.alloc _) ⟨wr.heap.size, 0, none⟩ 1 1 [.string (s.extract f s.size)] rfl rfl (World.news_of_block (heap_alloc_new wr _)) (by simp [Value.oneCell']) (by omega) (by unfold maxLen; omega) (by omega) (by simp; omega) (wr.heap.size + 1) (by simp) ?_; intro g' cap' w3 hown3 hgrow hat hlt'))
      have HW3 := Lib.hid hown3
      clear hown3
      go_ret
      exact ⟨_, rfl, by rw [HB.out, List.length_append, sv_snoc]; exact HW3.out, below_own (w1 := wr.alloc _) HW.out (hbb.alloc (by omega) _) (by simp; omega) hgrow⟩
set_option maxRecDepth 100000 in
set_option maxHeartbeats 4000000 in
theorem spec_Split (s : ByteArray) (b : Int) (w : World) (hs : s.size ≤ 1048576) (_hb : 0 ≤ b ∧ b ≤ 255) : Calls Try.prog 110 #[.string s, .int .u8 b] w (OwnStrs w (splitB s b)) := by
  obtain ⟨i0, hi0, hz0, hz1, hz2⟩ := info_parts Try.infoT
  have HDONE := Lib.hid (fun (ps : List ByteArray) (f : Nat) (e : spl s b s.size = (ps, f)) => splitB_e e)
  go_enter Try.func110, Try.ntmps110
  go_wp2_with fail
  go_loopw [7, 5, 6] (fun s7 s5 s6 wr => ∃ (k f : Nat) (v : Value) (ps : List ByteArray), k ≤ s.size + 1 ∧ s7 = .int .i64 k ∧ v = s5 ∧ wr.ownsRow w.heap.size 9 1 v ps.length (sv ps) ∧ Below w.heap.size w wr ∧ ps.length ≤ k ∧
    ((k ≤ s.size ∧ f ≤ k ∧ s6 = .int .i64 f ∧ spl s b k = (ps, f)) ∨ (k = s.size + 1 ∧ s6 = .int .i64 f ∧ splitB s b = ps))) (fun s7 _ _ _ => s.size + 1 - (intOf s7).toNat)
  case atStart =>
    refine ⟨0, 0, _, [], by omega, rfl, rfl, ⟨rfl, .inr ⟨w.heap.size, 0, _, rfl, Nat.le_refl _, heap_alloc_new _ _, Nat.zero_le _, by unfold maxLen; omega, rfl, rfl⟩⟩, by (repeat (first | with_reducible exact Below.refl _ _ | with_reducible assumption | ((with_reducible refine Bw.set ?_ ?_); rotate_left; focus omega) | ((with_reducible refine Bw.al ?_ ?_); rotate_left; focus (first | omega | (simp; done) | (simp; omega))) | with_reducible refine Below.drew ?_ | with_reducible refine Bw.dr ?_ _)), Nat.le_refl _, .inl ⟨Nat.zero_le _, Nat.le_refl _, rfl, rfl⟩⟩
  case round =>
    obtain ⟨k, f, v, ps, hk, rfl, rfl, hown, hbb, hps, hcase⟩ := hrel
    have HW := Lib.hid hown
    have hz := hbb.size
    clear hown
    rcases hcase with ⟨hk2, hf, rfl, he⟩ | ⟨hk2, rfl, he⟩
    · have HE := Lib.hid he
      clear he
      by_cases hlt : k < s.size
      · have e0 : ((k : Int) == (s.size : Int)) = false := beq_eq_false_iff_ne.2 (by omega)
        have e0' : (k == s.size) = false := beq_eq_false_iff_ne.2 (by omega)
        by_cases hc : (s[k].toNat : Int) = b
        · have e1 : ((s[k].toNat : Int) == b) = true := by simp [hc]
          have HY := Lib.hid (spl_y hlt HE.out hc)
          clear hc
          go_wp2_with (at_builtin; (refine wpList_append_lies _ rfl _ _ _ rfl w.heap.size 9 i0 _ 1 16 Try.underlying80 hi0 hz0 hz1 hz2 rfl (by omega) v ps.length (sv ps) rfl (HW.out.alloc _) ⟨wr.heap.size, 0, none⟩ 1 1 [.string (s.extract f k)] rfl rfl (World.news_of_block (heap_alloc_new wr _)) (by simp [Value.oneCell']) (by omega) (by unfold maxLen; omega) (by omega) (by simp; omega) (wr.heap.size + 1) (by simp) ?_; intro g' cap' w3 hown3 hgrow hat hlt'))
          have HW3 := Lib.hid hown3
          clear hown3
          go_roundw
          case rel => exact ⟨k + 1, k + 1, _, _, by omega, by go_num, rfl, by rw [List.length_append, sv_snoc]; exact HW3.out, below_own (w1 := wr.alloc _) HW.out (hbb.alloc (by omega) _) (by simp; omega) hgrow, by simp; omega, .inl ⟨by omega, by omega, by go_num, HY.out⟩⟩
          case measure => (simp [intOf]; try omega)
        · have e1 : ((s[k].toNat : Int) == b) = false := by simp [hc]
          have HY := Lib.hid (spl_n hlt HE.out hc)
          clear hc
          go_wp2_with fail
          go_roundw
          case rel => exact ⟨k + 1, f, _, ps, by omega, by go_num, rfl, HW.out, hbb, by omega, .inl ⟨by omega, by omega, rfl, HY.out⟩⟩
          case measure => (simp [intOf]; try omega)
      · obtain rfl : k = s.size := by omega
        have HB := Lib.hid (HDONE.out _ _ HE.out)
        go_wp2_with (at_builtin; (refine wpList_append_lies _ rfl _ _ _ rfl w.heap.size 9 i0 _ 1 16 Try.underlying80 hi0 hz0 hz1 hz2 rfl (by omega) v ps.length (sv ps) rfl (HW.out.alloc _) ⟨wr.heap.size, 0, none⟩ 1 1 [.string (s.extract f s.size)] rfl rfl (World.news_of_block (heap_alloc_new wr _)) (by simp [Value.oneCell']) (by omega) (by unfold maxLen; omega) (by omega) (by simp; omega) (wr.heap.size + 1) (by simp) ?_; intro g' cap' w3 hown3 hgrow hat hlt'))
        have HW3 := Lib.hid hown3
        clear hown3
        go_roundw
        case rel => exact ⟨s.size + 1, s.size + 1, _, _, by omega, by go_num, rfl, by rw [List.length_append, sv_snoc]; exact HW3.out, below_own (w1 := wr.alloc _) HW.out (hbb.alloc (by omega) _) (by simp; omega) hgrow, by simp; omega, .inr ⟨rfl, by go_num, HB.out⟩⟩
        case measure => (simp [intOf]; try omega)
    · have HE := Lib.hid he
      have hk3 : s.size < k := by omega
      clear he hk2
      go_wp2_with fail
      go_ret
      exact ⟨_, rfl, by rw [HE.out]; exact HW.out, hbb⟩

end Go.Proofs.Ytpejbmfapdocaaa
