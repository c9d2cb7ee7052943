/- Hubs' texts: written and read again, read and written again. Conditions: those that each theorem names. -/
import Derived.Test.YtpejbmfapdocaaaHbR
import Derived.Test.YtpejbmfapdocaaaJn
namespace Go.Proofs.Ytpejbmfapdocaaa
open Go.RowKit

theorem vlF_back {s : ByteArray} (h : (vlF s).2 = true) : decI (vlF s).1 = s := by
  unfold vlF at *
  split at h
  · simp at h
  · rename_i h1
    rw [if_neg h1]
    split at h
    · rename_i h2
      rw [if_pos h2]
      exact of_decide_eq_true h
    · simp at h
theorem decI_inj {a b : Int} (ha : 0 ≤ a) (hb : 0 ≤ b) (h : decI a = decI b) : a = b := by
  have e1 := decI_val2 ha
  have e2 := decI_val2 hb
  rw [h, e2] at e1
  exact e1.symm
theorem app_left {a b c d : ByteArray} (hs : a.size = c.size) (h : a ++ b = c ++ d) : a = c := by
  have e1 := ext_app_l (a := a) (b := b) rfl
  have e2 := ext_app_l (a := c) (b := d) rfl
  rw [h, hs] at e1
  rw [← e1, e2]
theorem app_right {a b c d : ByteArray} (hs : a.size = c.size) (h : a ++ b = c ++ d) : b = d := by
  have e1 := ext_app_r (a := a) (b := b) rfl
  have e2 := ext_app_r (a := c) (b := d) rfl
  rw [h, hs] at e1
  rw [← e1, e2]
theorem mesU_inj {u v : Int} (hu : 0 ≤ u) (hv : 0 ≤ v) (h : mesU u = mesU v) : u = v := by
  have s1 := mesU_size (u := u)
  have s2 := mesU_size (u := v)
  rw [h] at s1
  have hs : (decI (u / 10)).size = (decI (v / 10)).size := by omega
  rw [mesU, mesU, ByteArray.append_assoc, ByteArray.append_assoc] at h
  have h1 := decI_inj (by omega) (by omega) (app_left hs h)
  have h2 := decI_inj (by omega) (by omega) (app_right rfl (app_right hs h))
  omega
theorem mesB_inj {u v : Int} (h : mesB u = mesB v) : u = v := by
  have P : ∀ x y : Int, x < 0 → 0 ≤ y → mesB x = mesB y → False := fun x y hx hy e => by
    have e1 : bAt (mesB x) 0 = 45 := by rw [mesB_n hx, bAt_app_l (by rw [minus_size]; omega), bAt_minus]
    have e2 := (decI_head0 (y / 10)).1
    have e3 : bAt (mesB y) 0 = bAt (decI (y / 10)) 0 := by rw [mesB_p hy, mesU, ByteArray.append_assoc, bAt_app_l (decI_pos _)]
    rw [← e, e1] at e3
    omega
  rcases Int.lt_or_le u 0 with hu | hu
  · rcases Int.lt_or_le v 0 with hv | hv
    · rw [mesB_n hu, mesB_n hv] at h
      have := mesU_inj (by omega) (by omega) (app_right rfl h)
      omega
    · exact (P u v hu hv h).elim
  · rcases Int.lt_or_le v 0 with hv | hv
    · exact (P v u hv hu h.symm).elim
    · rw [mesB_p hu, mesB_p hv] at h
      exact mesU_inj hu hv h
theorem mdF_mes {v : Int} (h : isVal v = true) : mdF (mesB v) = (v, true) := by
  rcases mdF_cases (mesB v) with ⟨x, h1, h2, h3⟩ | ⟨h1, _⟩
  · rw [h3, mesB_inj h2]
  · exact absurd rfl (h1 v h)
theorem mdF_back {s : ByteArray} (h : (mdF s).2 = true) : mesB (mdF s).1 = s := by
  rcases mdF_cases s with ⟨x, h1, h2, h3⟩ | ⟨h1, h3⟩
  · rw [h3]; exact h2
  · rw [h3] at h; cases h
theorem dec_no {n b : Int} (hb : b < 48) : ∀ k, k < (decI n).size → bAt (decI n) k ≠ b := fun k hk e => by
  have := (inB_t (allDig_get (decI_dig (n := n)) hk)).1
  omega
theorem mesU_no {u b : Int} (hb : b < 48) (h46 : b ≠ 46) : ∀ k, k < (mesU u).size → bAt (mesU u) k ≠ b := fun k hk e => by
  rw [mesU] at hk e
  rcases Nat.lt_or_ge k (decI (u / 10)).size with h1 | h1
  · rw [ByteArray.append_assoc, bAt_app_l h1] at e
    exact dec_no hb k h1 e
  · rcases Nat.lt_or_ge k (decI (u / 10) ++ dot).size with h2 | h2
    · rw [bAt_app_l h2, bAt_app_r h1] at e
      rw [ByteArray.size_append, dot_size] at h2
      rw [show k - (decI (u / 10)).size = 0 by omega] at e
      have : bAt dot 0 = 46 := rfl
      omega
    · rw [bAt_app_r h2] at e
      rw [ByteArray.size_append] at hk
      exact dec_no hb _ (by omega) e
theorem mesB_no {v b : Int} (hb : b < 48) (h46 : b ≠ 46) (h45 : b ≠ 45) : ∀ k, k < (mesB v).size → bAt (mesB v) k ≠ b := fun k hk e => by
  rcases Int.lt_or_le v 0 with hv | hv
  · rw [mesB_n hv] at hk e
    rcases Nat.lt_or_ge k minus.size with h1 | h1
    · rw [bAt_app_l h1] at e
      rw [minus_size] at h1
      rw [show k = 0 by omega, bAt_minus] at e
      omega
    · rw [bAt_app_r h1] at e
      rw [ByteArray.size_append] at hk
      exact mesU_no hb h46 _ (by omega) e
  · rw [mesB_p hv] at hk e
    exact mesU_no hb h46 k hk e
theorem slash_sep : slash = sepB 47 := rfl
/-- A hub's text, read. -/
theorem hub_read {h l r lo ro : Int} (k : hubB h l r lo ro = true) : RdHub (hbB h l r lo ro) h l r lo ro 0 := by
  obtain ⟨k0, ⟨k1, k1'⟩, ⟨k2, k2'⟩, ⟨k3, k3'⟩, ⟨k4, k4'⟩⟩ := hubB_t k
  have hh := holes_val k0
  have hh2 := inB_t hh
  have hpos := holesB_t k0
  have e : splitB (hbB h l r lo ro) 47 = hbL h l r lo ro := by
    rw [hbB, slash_sep]
    refine split_join (ss := hbL h l r lo ro) (by omega) (by simp [hbL]) (fun j hj => ?_)
    match j, hj with
    | 0, _ => exact dec_no (n := h) (by omega)
    | 1, _ => exact mesB_no (v := l) (by omega) (by omega) (by omega)
    | 2, _ => exact mesB_no (v := r) (by omega) (by omega) (by omega)
    | 3, _ => exact mesB_no (v := lo) (by omega) (by omega) (by omega)
    | 4, _ => exact mesB_no (v := ro) (by omega) (by omega) (by omega)
    | j + 5, hj => simp [hbL] at hj; omega
  have a0 : vlF (sAt (splitB (hbB h l r lo ro) 47) 0) = (h, true) := by rw [e]; exact vlF_dec (by omega) (by omega)
  have a1 : hm (hbB h l r lo ro) 1 = (l, true) := by rw [hm, e]; exact mdF_mes (inB_mk (by omega))
  have a2 : hm (hbB h l r lo ro) 2 = (r, true) := by rw [hm, e]; exact mdF_mes (inB_mk (by omega))
  have a3 : hm (hbB h l r lo ro) 3 = (lo, true) := by rw [hm, e]; exact mdF_mes (inB_mk (by omega))
  have a4 : hm (hbB h l r lo ro) 4 = (ro, true) := by rw [hm, e]; exact mdF_mes (inB_mk (by omega))
  have ok : hOk (hbB h l r lo ro) 4 = true := by simp only [hOk, a1, a2, a3, a4, Bool.and_self]
  refine .inl ⟨rfl, ?_, by rw [a0], by rw [a1], by rw [a2], by rw [a3], by rw [a4]⟩
  rw [hubOk_yes (by rw [e]; rfl), a0, a1, a2, a3, a4, ok, k]
  rfl
/-- A hub that was read, written. -/
theorem hub_back {s : ByteArray} {h l r lo ro c : Int} (k : RdHub s h l r lo ro c) (hc : c = 0) : hubB h l r lo ro = true ∧ hbB h l r lo ro = s := by
  rcases k with ⟨_, k1, rfl, rfl, rfl, rfl, rfl⟩ | ⟨k0, _⟩
  · have h5 : (splitB s 47).length = 5 := by
      rcases Nat.decEq (splitB s 47).length 5 with e | e
      · rw [hubOk_no e] at k1; cases k1
      · exact e
    rw [hubOk_yes h5] at k1
    simp only [Bool.and_eq_true, hOk] at k1
    obtain ⟨⟨v0, ⟨⟨⟨_, v1⟩, v2⟩, v3⟩, v4⟩, kb⟩ := k1
    refine ⟨kb, ?_⟩
    have hj := join_split (b := 47) (by omega) s
    rw [h5] at hj
    rw [hbB, slash_sep, hbL, vlF_back v0]
    simp only [hm] at v1 v2 v3 v4 ⊢
    rw [mdF_back v1, mdF_back v2, mdF_back v3, mdF_back v4]
    have el : [sAt (splitB s 47) 0, sAt (splitB s 47) 1, sAt (splitB s 47) 2, sAt (splitB s 47) 3, sAt (splitB s 47) 4] = splitB s 47 := by
      match hp : splitB s 47, h5 with
      | [a, b, c, d, e], _ => rfl
    rw [el]
    exact hj
  · omega

end Go.Proofs.Ytpejbmfapdocaaa
