/- Slices of texts that read as a list: sizes, copies, comparisons, joining. Conditions: those that each theorem names. -/
import Derived.Test.YtpejbmfapdocaaaSl
import Derived.Test.YtpejbmfapdocaaaWd
namespace Go.Proofs.Ytpejbmfapdocaaa
open Go.RowKit

def sv (ss : List ByteArray) : List Value := ss.map Value.string
def sAt (ss : List ByteArray) (k : Nat) : ByteArray := ss.getD k ByteArray.empty
theorem sv_get {ss : List ByteArray} {k : Nat} (h : k < ss.length) : (sv ss)[k]? = some (.string (sAt ss k)) := by simp [sv, sAt, h]
theorem sv_len (ss : List ByteArray) : (sv ss).length = ss.length := by simp [sv]
theorem Rd.str {w : World} {B : Nat} {A : Option Addr} {ss : List ByteArray} (h : Rd w B A (sv ss)) {k : Nat} (hk : k < ss.length) : ∃ ad, A = some ad ∧ w.cell? (ad.add k) = some (.string (sAt ss k)) := by
  obtain ⟨ad, e, _, hc⟩ := h k _ (sv_get hk)
  exact ⟨ad, e, hc⟩
theorem Try.infoT : (Try.prog.info? 9).map (fun i => (i.zero, i.size, i.bytes)) = some (some (.string ByteArray.empty), 1, 16) := by kernel_rfl
/-- The first k values written, the rest still z. -/
def mixV (z : Value) (us : List Value) (k : Nat) : Array Value := (us.take k ++ List.replicate (us.length - k) z).toArray
theorem mixV_size {z : Value} {us : List Value} {k : Nat} (hk : k ≤ us.length) : (mixV z us k).size = us.length := by simp [mixV]; omega
theorem mixV_zero (z : Value) (us : List Value) {n : Nat} (hn : us.length = n) : mixV z us 0 = madeCells #[z] n := by
  apply Array.ext'
  rw [toList_madeCells_one]
  simp [mixV, hn]
theorem mixV_full {z : Value} {us : List Value} {n : Nat} (hn : us.length = n) : mixV z us n = us.toArray := by simp [mixV, ← hn]
theorem mixV_put {z u : Value} {us : List Value} {k : Nat} (hu : us[k]? = some u) : (mixV z us k).setIfInBounds k u = mixV z us (k + 1) := by
  have hk : k < us.length := by
    rcases Nat.lt_or_ge k us.length with h | h
    · exact h
    · rw [List.getElem?_eq_none h] at hu; cases hu
  apply Array.ext_getElem?
  intro i
  rw [Array.getElem?_setIfInBounds, mixV_size (by omega)]
  simp only [mixV, List.getElem?_toArray]
  have l1 : (us.take k).length = k := by simp; omega
  have l2 : (us.take (k + 1)).length = k + 1 := by simp; omega
  by_cases h1 : k = i
  · subst h1
    rw [if_pos rfl, if_pos hk, List.getElem?_append_left (by omega), List.getElem?_take, if_pos (by omega), hu]
  · rw [if_neg h1]
    rcases Nat.lt_or_ge i k with h2 | h2
    · rw [List.getElem?_append_left (by omega), List.getElem?_append_left (by omega), List.getElem?_take, List.getElem?_take, if_pos h2, if_pos (by omega)]
    · rw [List.getElem?_append_right (by omega), List.getElem?_append_right (by omega), l1, l2]
      simp only [List.getElem?_replicate]
      by_cases h3 : i < us.length
      · rw [if_pos (by omega), if_pos (by omega)]
      · rw [if_neg (by omega), if_neg (by omega)]
theorem mixV_at {z : Value} {us : List Value} {k : Nat} (hk : k < us.length) : (mixV z us k)[k]? = some z := by
  simp only [mixV, List.getElem?_toArray]
  rw [List.getElem?_append_right (by simp; omega), List.getElem?_replicate, if_pos]
  simp; omega
/-- What a copy of a list of texts leaves: a block of its own. -/
def NewStrs (w : World) (ss : List ByteArray) (e : Ending) (w' : World) : Prop :=
  e = .returned (.slice (some ⟨w.heap.size, 0, none⟩) ss.length ss.length) ∧ (∀ i, w'.cell? ⟨w.heap.size, i, none⟩ = (sv ss).toArray[i]?) ∧ (∀ i, w'.frozen? ⟨w.heap.size, i, none⟩ = false) ∧ w.heap.size < w'.heap.size ∧ Below w.heap.size w w'


/-- The sizes of the first k texts together. -/
def sumSz (ss : List ByteArray) : Nat → Int
  | 0 => 0
  | k + 1 => sumSz ss k + ((sAt ss k).size : Int)
theorem sumSz_mono (ss : List ByteArray) {i j : Nat} (h : i ≤ j) : sumSz ss i ≤ sumSz ss j := by
  induction j with
  | zero => obtain rfl : i = 0 := by omega
            exact Int.le_refl _
  | succ j ih =>
    rcases Nat.lt_or_ge i (j + 1) with k | k
    · have := ih (by omega)
      rw [sumSz]
      omega
    · obtain rfl : i = j + 1 := by omega
      exact Int.le_refl _
def szV (L : Int) (ss : List ByteArray) : Int := if L - ss.length - sumSz ss ss.length < 0 then -1 else L - ss.length - sumSz ss ss.length
theorem szV_n {L : Int} {ss : List ByteArray} {k : Nat} (hk : k ≤ ss.length) (h : L - ss.length - sumSz ss k < 0) : szV L ss = -1 := by
  have := sumSz_mono ss hk
  rw [szV, if_pos (by omega)]
theorem szV_y {L : Int} {ss : List ByteArray} (h : 0 ≤ L - ss.length - sumSz ss ss.length) : szV L ss = L - ss.length - sumSz ss ss.length := by rw [szV, if_neg (by omega)]
theorem szV_t {L : Int} {ss : List ByteArray} (h : 0 ≤ szV L ss) : 0 ≤ L - ss.length - sumSz ss ss.length := by
  unfold szV at h
  split at h <;> omega


def allW (ss : List ByteArray) : Bool := (List.range ss.length).all fun i => wordB (sAt ss i)
theorem allW_t {ss : List ByteArray} (h : ∀ j, j < ss.length → wordB (sAt ss j) = true) : allW ss = true := by
  simp only [allW, List.all_eq_true, List.mem_range]
  exact h
theorem allW_get {ss : List ByteArray} (h : allW ss = true) {j : Nat} (hj : j < ss.length) : wordB (sAt ss j) = true := by
  simp only [allW, List.all_eq_true, List.mem_range] at h
  exact h j hj
theorem allW_f {ss : List ByteArray} {j : Nat} (hj : j < ss.length) (h : wordB (sAt ss j) = false) : allW ss = false := by
  rw [Bool.eq_false_iff]
  intro k
  rw [allW_get k hj] at h
  cases h
theorem wordB_size {s : ByteArray} (h : wordB s = true) : 1 ≤ s.size ∧ s.size ≤ 16 := by
  simp only [wordB, Bool.and_eq_true] at h
  have := inB_t h.2
  omega
set_option maxHeartbeats 1000000 in
theorem spec_All (A : Option Addr) (c : Nat) (ss : List ByteArray) (w : World) (hm : ss.length ≤ maxLen) (hs : ∀ k, (sAt ss k).size ≤ maxLen) (hr : Rd w w.heap.size A (sv ss)) :
    Calls Try.prog 148 #[.slice A ss.length c] w fun e w' => e = .returned (.bool (allW ss)) ∧ w = w' := by
  have HR := Lib.hid hr
  have HS := Lib.hid hs
  unfold maxLen at hm
  clear hr hs
  go_enter Try.func148, Try.ntmps148
  go_wp2_with fail
  go_loop [3] (fun s3 => ∃ k : Nat, k ≤ ss.length ∧ s3 = .int .i64 k ∧ ∀ j, j < k → wordB (sAt ss j) = true) (fun s3 => ss.length - (intOf s3).toNat)
  case atStart => exact ⟨0, Nat.zero_le _, rfl, fun j h => absurd h (by omega)⟩
  case round =>
    obtain ⟨k, hk, rfl, hok⟩ := hrel
    have HO := Lib.hid hok
    clear hok
    by_cases hlt : k < ss.length
    · obtain ⟨ad, rfl, ha⟩ := HR.out.str hlt
      have HZ := Lib.hid (HS.out k)
      generalize hx : sAt ss k = x at *
      have HX := Lib.hid hx
      clear hx
      rcases h1 : wordB x with _ | _
      · have H1 := Lib.hid h1
        clear h1
        go_wp2_with fail
        go_wp2_with fail
        refine (spec_IsWord _ _ HZ.out).mono ?_
        rintro e w1 ⟨rfl, rfl⟩
        rw [H1.out]
        go_wp2_with fail
        go_ret
        exact ⟨retb (by rw [allW_f hlt (by rw [HX.out]; exact H1.out)]), rfl⟩
      · have H1 := Lib.hid h1
        clear h1
        go_wp2_with fail
        go_wp2_with fail
        refine (spec_IsWord _ _ HZ.out).mono ?_
        rintro e w1 ⟨rfl, rfl⟩
        rw [H1.out]
        go_wp2_with fail
        go_round
        case rel =>
          refine ⟨k + 1, by omega, by go_num, fun j hj => ?_⟩
          by_cases e : j = k
          · rw [e, HX.out]; exact H1.out
          · exact HO.out j (by omega)
        case measure => simp [intOf]; omega
    · obtain rfl : k = ss.length := by omega
      go_wp2_with fail
      go_ret
      exact ⟨retb (by rw [allW_t HO.out]), rfl⟩

/-- The first k texts with b between them. -/
def joinB (ss : List ByteArray) (b : ByteArray) : Nat → ByteArray
  | 0 => ByteArray.empty
  | k + 1 => (if k = 0 then joinB ss b k else joinB ss b k ++ b) ++ sAt ss k
theorem joinB_size {ss : List ByteArray} {b : ByteArray} (hb : b.size ≤ 4) (hs : ∀ k, (sAt ss k).size ≤ 20) : ∀ k, (joinB ss b k).size ≤ 24 * k
  | 0 => by simp [joinB]
  | k + 1 => by
    have h1 := joinB_size hb hs k
    have h2 := hs k
    rw [joinB, ByteArray.size_append]
    split
    · omega
    · rw [ByteArray.size_append]
      omega
theorem joinB_0 {ss : List ByteArray} {b x : ByteArray} (hx : sAt ss 0 = x) : joinB ss b 1 = joinB ss b 0 ++ x := by rw [← hx]; rfl
theorem joinB_s {ss : List ByteArray} {b x : ByteArray} {k : Nat} (h : k ≠ 0) (hx : sAt ss k = x) : joinB ss b (k + 1) = joinB ss b k ++ b ++ x := by rw [joinB, hx, if_neg h]

set_option maxHeartbeats 1000000 in
theorem impl_join (A : Option Addr) (c : Nat) (ss : List ByteArray) (b : ByteArray) (w : World) (hb : b.size ≤ 4) (hm : ss.length ≤ 1000) (hs : ∀ k, (sAt ss k).size ≤ 20) (hr : Rd w w.heap.size A (sv ss)) :
    Calls Try.prog 147 #[.slice A ss.length c, .string b] w fun e w' => e = .returned (.string (joinB ss b ss.length)) ∧ w = w' := by
  have HR := Lib.hid hr
  have HS := Lib.hid hs
  clear hr hs
  go_enter Try.func147, Try.ntmps147
  go_wp2_with fail
  go_loop [10, 5, 6, 7] (fun s10 s5 _ _ => ∃ k : Nat, k ≤ ss.length ∧ s10 = .int .i64 k ∧ s5 = .string (joinB ss b k)) (fun s10 _ _ _ => ss.length - (intOf s10).toNat)
  case atStart => exact ⟨0, Nat.zero_le _, rfl, rfl⟩
  case round =>
    obtain ⟨k, hk, rfl, rfl⟩ := hrel
    have hj := joinB_size hb HS.out k
    by_cases hlt : k < ss.length
    · obtain ⟨ad, rfl, ha⟩ := HR.out.str hlt
      have hz := HS.out k
      generalize hx : sAt ss k = x at *
      have HX := Lib.hid hx
      clear hx
      rcases Nat.eq_zero_or_pos k with h0 | h0
      · subst h0
        rw [Addr.add_zero'] at ha
        go_wp2_with fail
        go_round
        case rel => exact ⟨1, by omega, by go_num, by rw [joinB_0 HX.out]⟩
        case measure => simp [intOf]; omega
      · go_wp2_with fail
        go_round
        case rel => exact ⟨k + 1, by omega, by go_num, by rw [joinB_s (by omega) HX.out]⟩
        case measure => simp [intOf]; omega
    · obtain rfl : k = ss.length := by omega
      go_wp2_with fail
      go_ret
      exact ⟨rfl, rfl⟩
set_option maxHeartbeats 1000000 in
theorem spec_Words (A : Option Addr) (c : Nat) (ss : List ByteArray) (b : ByteArray) (w : World) (hb : b.size ≤ 4) (hm : ss.length ≤ 1000) (hs : ∀ k, (sAt ss k).size ≤ 20) (hr : Rd w w.heap.size A (sv ss)) :
    Calls Try.prog 149 #[.slice A ss.length c, .string b] w fun e w' => e = .returned (.string (joinB ss b ss.length)) ∧ w = w' := by
  have HR := Lib.hid hr
  have HS := Lib.hid hs
  clear hr hs
  go_enter Try.func149, Try.ntmps149
  go_wp2_with fail
  go_loop [6, 5] (fun s6 s5 => ∃ k : Nat, k ≤ ss.length ∧ s6 = .int .i64 k ∧ s5 = .string (joinB ss b k)) (fun s6 _ => ss.length - (intOf s6).toNat)
  case atStart => exact ⟨0, Nat.zero_le _, rfl, rfl⟩
  case round =>
    obtain ⟨k, hk, rfl, rfl⟩ := hrel
    have hj := joinB_size hb HS.out k
    by_cases hlt : k < ss.length
    · obtain ⟨ad, rfl, ha⟩ := HR.out.str hlt
      have hz := HS.out k
      generalize hx : sAt ss k = x at *
      have HX := Lib.hid hx
      clear hx
      rcases Nat.eq_zero_or_pos k with h0 | h0
      · subst h0
        rw [Addr.add_zero'] at ha
        go_wp2_with fail
        go_round
        case rel => exact ⟨1, by omega, by go_num, by rw [joinB_0 HX.out]⟩
        case measure => simp [intOf]; omega
      · go_wp2_with fail
        go_round
        case rel => exact ⟨k + 1, by omega, by go_num, by rw [joinB_s (by omega) HX.out]⟩
        case measure => simp [intOf]; omega
    · obtain rfl : k = ss.length := by omega
      go_wp2_with fail
      go_ret
      exact ⟨rfl, rfl⟩

end Go.Proofs.Ytpejbmfapdocaaa
