/- Texts joined and split again, and split and joined again. Condition: no part holds the byte between them. -/
import Derived.Test.YtpejbmfapdocaaaSplit
import Derived.Test.YtpejbmfapdocaaaNum
namespace Go.Proofs.Ytpejbmfapdocaaa
open Go.RowKit

/-- One byte as a text. -/
def sepB (b : Int) : ByteArray := { data := #[UInt8.ofNat b.toNat] }
theorem sepB_size (b : Int) : (sepB b).size = 1 := rfl
theorem bAt_sep {b : Int} (h : 0 ≤ b ∧ b ≤ 255) : bAt (sepB b) 0 = b := by
  simp only [bAt, sepB, Array.getD_eq_getD_getElem?, List.getElem?_toArray]
  simp
  omega
theorem joinB_one (ss : List ByteArray) (b : ByteArray) : joinB ss b 1 = sAt ss 0 := by
  show ByteArray.empty ++ sAt ss 0 = sAt ss 0
  simp
def catB (b : ByteArray) : List ByteArray → ByteArray
  | [] => ByteArray.empty
  | p :: ps => p ++ b ++ catB b ps
theorem catB_snoc (b p : ByteArray) : ∀ ps, catB b (ps ++ [p]) = catB b ps ++ (p ++ b)
  | [] => by simp [catB]
  | q :: ps => by rw [List.cons_append, catB, catB_snoc b p ps, catB, ByteArray.append_assoc (a := q ++ b)]
theorem take_snocS {ss : List ByteArray} {k : Nat} (hk : k < ss.length) : ss.take (k + 1) = ss.take k ++ [sAt ss k] := by
  rw [List.take_add_one, List.getElem?_eq_getElem hk]
  simp [sAt, hk]
theorem join_cat {ss : List ByteArray} {b : ByteArray} : ∀ k, k < ss.length → joinB ss b (k + 1) = catB b (ss.take k) ++ sAt ss k
  | 0, _ => by rw [joinB_one]; simp [catB]
  | k + 1, h => by
    rw [joinB_s (by omega) rfl, join_cat k (by omega), take_snocS (by omega), catB_snoc, ByteArray.append_assoc (a := catB b (ss.take k))]
theorem splJ_skip {s : ByteArray} {b : Int} {i : Nat} : ∀ d, (∀ k, i ≤ k → k < i + d → bAt s k ≠ b) → spl s b (i + d) = spl s b i
  | 0, _ => rfl
  | d + 1, h => by
    rw [← Nat.add_assoc, spl, if_neg (h (i + d) (by omega) (by omega))]
    exact splJ_skip d (fun k h1 h2 => h k h1 (by omega))
theorem splJ_none {s : ByteArray} {b : Int} (n : Nat) (h : ∀ k, k < n → bAt s k ≠ b) : spl s b n = ([], 0) := by
  have := splJ_skip (s := s) (b := b) (i := 0) n (fun k _ h2 => h k (by omega))
  rwa [Nat.zero_add] at this
theorem ext_ext {s : ByteArray} {f i : Nat} (h1 : f ≤ i) (h2 : i ≤ s.size) : s.extract 0 f ++ s.extract f i = s.extract 0 i := by
  have z1 : (s.extract 0 f).size = f := by rw [ByteArray.size_extract]; omega
  have z2 : (s.extract f i).size = i - f := by rw [ByteArray.size_extract]; omega
  have z3 : (s.extract 0 i).size = i := by rw [ByteArray.size_extract]; omega
  refine bAt_ext (by rw [ByteArray.size_append, z1, z2, z3]; omega) (fun k hk => ?_)
  rw [ByteArray.size_append, z1, z2] at hk
  rw [bAt_extract h2 (by omega), Nat.zero_add]
  rcases Nat.lt_or_ge k f with h | h
  · rw [bAt_app_l (by omega), bAt_extract (by omega) (by omega), Nat.zero_add]
  · rw [bAt_app_r (by omega), z1, bAt_extract h2 (by omega), show f + (k - f) = k by omega]
theorem ext_one {s : ByteArray} {b : Int} {i : Nat} (hb : 0 ≤ b ∧ b ≤ 255) (h : i < s.size) (e : bAt s i = b) : s.extract i (i + 1) = sepB b := by
  have z : (s.extract i (i + 1)).size = 1 := by rw [ByteArray.size_extract]; omega
  refine bAt_ext (by rw [z, sepB_size]) (fun k hk => ?_)
  rw [z] at hk
  rw [bAt_extract (s := s) (a := i) (b := i + 1) (by omega) (by omega), show k = 0 by omega, bAt_sep hb, Nat.add_zero, e]
theorem cat_spl {s : ByteArray} {b : Int} (hb : 0 ≤ b ∧ b ≤ 255) : ∀ i, i ≤ s.size → catB (sepB b) (spl s b i).1 = s.extract 0 (spl s b i).2
  | 0, _ => by simp [spl, catB]
  | i + 1, h => by
    have ih := cat_spl (s := s) hb i (by omega)
    have hl := (spl_le s b i).1
    rw [spl]
    split
    · rename_i e
      rw [catB_snoc, ih, ← ByteArray.append_assoc, ext_ext hl (by omega), ← ext_one (s := s) (i := i) hb (by omega) e]
      exact ext_ext (f := i) (by omega) h
    · exact ih
theorem sAt_last (ps : List ByteArray) (p : ByteArray) : sAt (ps ++ [p]) ps.length = p := by simp [sAt, List.getD_eq_getElem?_getD]
/-- A text, split and joined again. -/
theorem join_split {b : Int} (hb : 0 ≤ b ∧ b ≤ 255) (s : ByteArray) : joinB (splitB s b) (sepB b) (splitB s b).length = s := by
  have hl := (spl_le s b s.size).1
  have e := cat_spl (s := s) hb s.size (Nat.le_refl _)
  rw [splitB]
  generalize spl s b s.size = x at *
  obtain ⟨ps, f⟩ := x
  simp only at hl e
  rw [show (ps ++ [s.extract f s.size]).length = ps.length + 1 by simp, join_cat _ (by simp), sAt_last, List.take_left', e, ext_ext hl (Nat.le_refl _)]
  · simp
  · rfl
theorem spl_shift {p r : ByteArray} {b : Int} (hb : 0 ≤ b ∧ b ≤ 255) (hp : ∀ k, k < p.size → bAt p k ≠ b) : ∀ i, i ≤ r.size → spl (p ++ sepB b ++ r) b (p.size + 1 + i) = (p :: (spl r b i).1, p.size + 1 + (spl r b i).2)
  | 0, _ => by
    have z : (p ++ sepB b).size = p.size + 1 := by rw [ByteArray.size_append, sepB_size]
    have h0 : spl (p ++ sepB b ++ r) b p.size = ([], 0) := splJ_none _ (fun k hk => by rw [ByteArray.append_assoc, bAt_app_l hk]; exact hp k hk)
    have h1 : bAt (p ++ sepB b ++ r) p.size = b := by rw [bAt_app_l (by omega), bAt_app_r (Nat.le_refl _), Nat.sub_self, bAt_sep hb]
    have h2 : spl (p ++ sepB b ++ r) b (p.size + 1) = ([] ++ [(p ++ sepB b ++ r).extract 0 p.size], p.size + 1) := by rw [spl, if_pos h1, h0]
    rw [Nat.add_zero, h2]
    simp only [spl, List.nil_append, Nat.add_zero, Prod.mk.injEq, and_true, List.cons.injEq]
    rw [ByteArray.append_assoc]
    refine bAt_ext (by rw [ByteArray.size_extract, ByteArray.size_append]; omega) (fun k hk => ?_)
    rw [ByteArray.size_extract] at hk
    rw [bAt_extract (by rw [ByteArray.size_append]; omega) (by omega), Nat.zero_add, bAt_app_l (by omega)]
  | i + 1, h => by
    have z : (p ++ sepB b).size = p.size + 1 := by rw [ByteArray.size_append, sepB_size]
    have ih := spl_shift hb hp (r := r) i (by omega)
    have hl := (spl_le r b i).1
    have hc : bAt (p ++ sepB b ++ r) (p.size + 1 + i) = bAt r i := by rw [bAt_app_r (by omega), z, show p.size + 1 + i - (p.size + 1) = i by omega]
    rw [← Nat.add_assoc, spl, hc, ih]
    by_cases e : bAt r i = b
    · rw [if_pos e, spl, if_pos e]
      simp only [List.cons_append, Prod.mk.injEq, List.cons.injEq, true_and]
      refine ⟨?_, by omega⟩
      congr 2
      have y : (p ++ sepB b ++ r).size = p.size + 1 + r.size := by rw [ByteArray.size_append, z]
      refine bAt_ext (by rw [ByteArray.size_extract, ByteArray.size_extract]; omega) (fun k hk => ?_)
      rw [ByteArray.size_extract] at hk
      rw [bAt_extract (by omega) (by omega), bAt_extract (by omega) (by omega), bAt_app_r (by omega), z]
      congr 1
      omega
    · rw [if_neg e, spl, if_neg e]
theorem split_cons {p r : ByteArray} {b : Int} (hb : 0 ≤ b ∧ b ≤ 255) (hp : ∀ k, k < p.size → bAt p k ≠ b) : splitB (p ++ sepB b ++ r) b = p :: splitB r b := by
  have z : (p ++ sepB b ++ r).size = p.size + 1 + r.size := by rw [ByteArray.size_append, ByteArray.size_append, sepB_size]
  have hl := (spl_le r b r.size).1
  have hs := spl_shift hb hp (r := r) r.size (Nat.le_refl _)
  rw [splitB, splitB]
  rw [show spl (p ++ sepB b ++ r) b (p ++ sepB b ++ r).size = spl (p ++ sepB b ++ r) b (p.size + 1 + r.size) by rw [z], hs]
  simp only [List.cons_append, List.cons.injEq, true_and]
  congr 2
  refine bAt_ext (by rw [ByteArray.size_extract, ByteArray.size_extract]; omega) (fun k hk => ?_)
  rw [ByteArray.size_extract] at hk
  rw [bAt_extract (by omega) (by omega), bAt_extract (by omega) (by omega), bAt_app_r (by rw [ByteArray.size_append, sepB_size]; omega), ByteArray.size_append, sepB_size]
  congr 1
  omega
theorem split_catB {b : Int} (hb : 0 ≤ b ∧ b ≤ 255) {q : ByteArray} (hq : ∀ k, k < q.size → bAt q k ≠ b) : ∀ ps : List ByteArray, (∀ p ∈ ps, ∀ k, k < p.size → bAt p k ≠ b) → splitB (catB (sepB b) ps ++ q) b = ps ++ [q]
  | [], _ => by
    have e : catB (sepB b) [] ++ q = q := by simp [catB]
    rw [e, splitB, splJ_none _ hq]
    simp
  | p :: ps, h => by
    have e : catB (sepB b) (p :: ps) ++ q = p ++ sepB b ++ (catB (sepB b) ps ++ q) := by rw [catB, ByteArray.append_assoc (a := p ++ sepB b)]
    rw [e, split_cons hb (h p (by simp)), split_catB hb hq ps (fun x hx => h x (by simp [hx]))]
    rfl
/-- Texts, joined and split again. -/
theorem split_join {b : Int} (hb : 0 ≤ b ∧ b ≤ 255) {ss : List ByteArray} (h1 : 1 ≤ ss.length) (h : ∀ j, j < ss.length → ∀ k, k < (sAt ss j).size → bAt (sAt ss j) k ≠ b) : splitB (joinB ss (sepB b) ss.length) b = ss := by
  have e : ss = ss.take (ss.length - 1) ++ [sAt ss (ss.length - 1)] := by
    have := take_snocS (ss := ss) (k := ss.length - 1) (by omega)
    rw [show ss.length - 1 + 1 = ss.length by omega, List.take_length] at this
    exact this
  have hj := join_cat (ss := ss) (b := sepB b) (ss.length - 1) (by omega)
  rw [show ss.length - 1 + 1 = ss.length by omega] at hj
  rw [hj, split_catB hb (h _ (by omega)) _ (fun p hp k hk => ?_), ← e]
  obtain ⟨j, hj1, rfl⟩ := List.getElem_of_mem hp
  rw [List.length_take] at hj1
  have e2 : (ss.take (ss.length - 1))[j]'(by rw [List.length_take]; exact hj1) = sAt ss j := by simp [sAt, show j < ss.length by omega]
  rw [e2] at hk ⊢
  exact h j (by omega) k hk

end Go.Proofs.Ytpejbmfapdocaaa
