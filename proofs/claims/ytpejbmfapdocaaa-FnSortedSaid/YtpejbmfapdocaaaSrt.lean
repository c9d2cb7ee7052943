/- Sorting by insertion, from the right and from the left: plain lists, no program in sight. No condition. -/
import Derived.Test.YtpejbmfapdocaaaOwn
import Derived.Test.YtpejbmfapdocaaaLt
import Derived.Test.YtpejbmfapdocaaaMk
namespace Go.Proofs.Ytpejbmfapdocaaa
open Go.RowKit

def insL : List Int → Int → List Int
  | [], x => [x]
  | y :: S, x => if y ≤ x then y :: insL S x else x :: y :: S
def isort (xs : List Int) : Nat → List Int
  | 0 => []
  | k + 1 => insL (isort xs k) (xs.getD k 0)
def swp (ys : List Int) (k : Nat) : List Int := (ys.set (k + 1) (ys.getD k 0)).set k (ys.getD (k + 1) 0)
def bub (ys : List Int) : Nat → List Int
  | 0 => ys
  | k + 1 => if ys.getD (k + 1) 0 < ys.getD k 0 then bub (swp ys k) k else ys
def srt (xs : List Int) : Nat → List Int
  | 0 => xs
  | i + 1 => bub (srt xs i) i
theorem insL_len : ∀ (S : List Int) (x : Int), (insL S x).length = S.length + 1
  | [], x => rfl
  | y :: S, x => by
    rw [insL]
    split
    · simp [insL_len S x]
    · simp
theorem isort_len (xs : List Int) : ∀ k, (isort xs k).length = k
  | 0 => rfl
  | k + 1 => by rw [isort, insL_len, isort_len xs k]
theorem swp_len (ys : List Int) (k : Nat) : (swp ys k).length = ys.length := by simp [swp]
theorem bub_len : ∀ (k : Nat) (ys : List Int), (bub ys k).length = ys.length
  | 0, ys => rfl
  | k + 1, ys => by
    rw [bub]
    split
    · rw [bub_len k, swp_len]
    · rfl
theorem srt_len (xs : List Int) : ∀ i, (srt xs i).length = xs.length
  | 0 => rfl
  | i + 1 => by rw [srt, bub_len, srt_len xs i]
theorem insL_mem {S : List Int} {x z : Int} : z ∈ insL S x ↔ z = x ∨ z ∈ S := by
  induction S with
  | nil => simp [insL]
  | cons y S ih =>
    rw [insL]
    split
    · simp only [List.mem_cons, ih]
      constructor
      · rintro (h | h | h)
        · exact .inr (.inl h)
        · exact .inl h
        · exact .inr (.inr h)
      · rintro (h | h | h)
        · exact .inr (.inl h)
        · exact .inl h
        · exact .inr (.inr h)
    · simp
theorem insL_sorted {S : List Int} {x : Int} (h : S.Pairwise (· ≤ ·)) : (insL S x).Pairwise (· ≤ ·) := by
  induction S with
  | nil => simp [insL]
  | cons y S ih =>
    rw [List.pairwise_cons] at h
    rw [insL]
    split
    · rename_i hy
      rw [List.pairwise_cons]
      refine ⟨fun z hz => ?_, ih h.2⟩
      rcases insL_mem.1 hz with rfl | hz
      · exact hy
      · exact h.1 z hz
    · rename_i hy
      rw [List.pairwise_cons]
      refine ⟨fun z hz => ?_, List.pairwise_cons.2 h⟩
      rcases List.mem_cons.1 hz with rfl | hz
      · omega
      · have := h.1 z hz; omega
theorem isort_sorted (xs : List Int) : ∀ k, (isort xs k).Pairwise (· ≤ ·)
  | 0 => List.Pairwise.nil
  | k + 1 => insL_sorted (isort_sorted xs k)
theorem insL_app_gt {S : List Int} {x y : Int} (h : x < y) : insL (S ++ [y]) x = insL S x ++ [y] := by
  induction S with
  | nil => simp only [List.nil_append, insL]; rw [if_neg (by omega)]; rfl
  | cons z S ih =>
    simp only [List.cons_append, insL]
    split
    · rw [ih]; rfl
    · rfl
theorem insL_all_le {S : List Int} {x : Int} (h : ∀ z ∈ S, z ≤ x) : insL S x = S ++ [x] := by
  induction S with
  | nil => rfl
  | cons z S ih =>
    rw [insL, if_pos (h z (by simp)), ih (fun u hu => h u (by simp [hu]))]
    rfl
theorem getD_mid {α : Type} (S : List α) (x d : α) (R : List α) : (S ++ x :: R).getD S.length d = x := by simp [List.getD_eq_getElem?_getD]
theorem set_mid {α : Type} (S : List α) (x y : α) (R : List α) : (S ++ x :: R).set S.length y = S ++ y :: R := by simp
theorem bub_ins : ∀ (n : Nat) (S : List Int) (x : Int) (R : List Int), S.length = n → S.Pairwise (· ≤ ·) → bub (S ++ x :: R) n = insL S x ++ R
  | 0, S, x, R, hn, _ => by
    obtain rfl := List.eq_nil_of_length_eq_zero hn
    rfl
  | n + 1, S, x, R, hn, hs => by
    rcases List.eq_nil_or_concat S with rfl | ⟨T, y, rfl⟩
    · simp at hn
    have ht : T.length = n := by simpa using hn
    rw [List.concat_eq_append] at hs ⊢
    have hs2 := List.pairwise_append.1 hs
    have e1 : (T ++ [y] ++ x :: R).getD n 0 = y := by
      rw [← ht, List.append_assoc]; exact getD_mid T y 0 _
    have e2 : (T ++ [y] ++ x :: R).getD (n + 1) 0 = x := by
      rw [show n + 1 = (T ++ [y]).length by simp [ht]]; exact getD_mid _ x 0 _
    rw [bub, e1, e2]
    split
    · rename_i hlt
      have e3 : swp (T ++ [y] ++ x :: R) n = T ++ x :: (y :: R) := by
        rw [swp, e1, e2]
        rw [show n + 1 = (T ++ [y]).length by simp [ht], set_mid (T ++ [y]) x y R, List.append_assoc, ← ht]
        exact set_mid T y x (y :: R)
      rw [e3, bub_ins n T x (y :: R) ht hs2.1, insL_app_gt hlt]
      simp
    · rename_i hge
      rw [insL_all_le (fun z hz => ?_)]
      · simp
      · rcases List.mem_append.1 hz with hz | hz
        · have := hs2.2.2 z hz y (by simp); omega
        · simp at hz; omega
theorem srt_isort (xs : List Int) : ∀ i, i ≤ xs.length → srt xs i = isort xs i ++ xs.drop i
  | 0, _ => by simp [srt, isort]
  | i + 1, h => by
    rw [srt, srt_isort xs i (by omega), isort, List.drop_eq_getElem_cons (by omega)]
    rw [bub_ins i (isort xs i) _ _ (isort_len xs i) (isort_sorted xs i)]
    simp [List.getD_eq_getElem?_getD, List.getElem?_eq_getElem (show i < xs.length by omega)]
theorem srt_all (xs : List Int) : srt xs xs.length = isort xs xs.length := by rw [srt_isort xs _ (Nat.le_refl _)]; simp
/-- Where a number is put: behind all that are not greater. -/
theorem ins_at : ∀ (S : List Int) (x : Int) (a : Nat), a ≤ S.length → (∀ j, j < a → S.getD j 0 ≤ x) → (a < S.length → x < S.getD a 0) → S.take a ++ [x] ++ S.drop a = insL S x
  | [], x, a, ha, _, _ => by
    obtain rfl : a = 0 := by simpa using ha
    rfl
  | y :: S, x, 0, _, _, h2 => by
    have := h2 (by simp)
    simp only [List.getD_cons_zero] at this
    rw [insL, if_neg (by omega)]
    rfl
  | y :: S, x, a + 1, ha, h1, h2 => by
    have h0 := h1 0 (by omega)
    simp only [List.getD_cons_zero] at h0
    rw [insL, if_pos h0, ← ins_at S x a (by simpa using ha) (fun j hj => by have := h1 (j + 1) (by omega); simpa using this) (fun hl => by have := h2 (by simpa using hl); simpa using this)]
    rfl

end Go.Proofs.Ytpejbmfapdocaaa
