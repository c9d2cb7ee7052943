/- Slices that a call owns: kept over calls, read as lists. Conditions: those that each theorem names. -/
import Derived.Test.YtpejbmfapdocaaaSt
import Derived.Deep.AppendLies
import Derived.OwnWalk
namespace Go.Proofs.Ytpejbmfapdocaaa
open Go.RowKit

theorem Rd.now {w w1 : World} {A : Option Addr} {us : List Value} (h : Rd w w.heap.size A us) (b : Below w.heap.size w w1) : Rd w1 w1.heap.size A us := (h.keep b).more b.size
theorem grown_of_below {w w1 : World} (hb : Below w.heap.size w w1) : w.grownBy w1 none := ⟨hb.os, hb.tape, hb.output, hb.size, fun k hk _ => hb.block k hk⟩
theorem own_below {w w1 : World} {base n : Nat} {e : TypeId} {v : Value} {us : List Value} (h : w.ownsRow base e 1 v n us) (hb : Below w.heap.size w w1) : w1.ownsRow base e 1 v n us :=
  h.kept (grown_of_below hb) (by cases v.ownBlock <;> simp)
theorem own_read {w : World} {base n : Nat} {e : TypeId} {v : Value} {us : List Value} (h : w.ownsRow base e 1 v n us) : ∃ A c, v = .slice A n c ∧ Rd w w.heap.size A us := by
  rcases h.2 with ⟨rfl, rfl⟩ | ⟨g, cap, cur, rfl, hb, hg, hnc, hcm, hcs, ht⟩
  · refine ⟨none, 0, rfl, ?_⟩
    have : us = [] := List.eq_nil_of_length_eq_zero (by simpa using h.1)
    rw [this]
    exact Rd.nil
  · refine ⟨_, _, rfl, fun k u hu => ⟨_, rfl, ?_, ?_⟩⟩
    · exact (Array.getElem?_eq_some_iff.1 hg).1
    · exact h.cells (g := g) rfl k u hu
theorem own_base {w : World} {base n : Nat} {e : TypeId} {v : Value} {us : List Value} (h : w.ownsRow base e 1 v n us) : ∀ k, v.ownBlock = some k → base ≤ k := fun k hk => (h.lt k hk).1
theorem own_len {w : World} {base n : Nat} {e : TypeId} {v : Value} {us : List Value} (h : w.ownsRow base e 1 v n us) : us.length = n := by have := h.1; omega
/-- An append of the call's own: what lay below the base is kept. -/
theorem below_own {w wr w1 w2 : World} {base n : Nat} {e : TypeId} {v : Value} {us : List Value} (h : wr.ownsRow base e 1 v n us) (hb : Below base w w1) (hz : base ≤ w1.heap.size) (hg : w1.grownBy w2 v.ownBlock) : Below base w w2 :=
  hb.grown hg hz (own_base h)

theorem iv_snoc (xs : List Int) (x : Int) : iv (xs ++ [x]) = iv xs ++ [.int .i64 x] := by simp [iv]
theorem sv_snoc (ss : List ByteArray) (s : ByteArray) : sv (ss ++ [s]) = sv ss ++ [.string s] := by simp [sv]
/-- What a call hands back: a slice of its own, nil or not. -/
def OwnStrs (w : World) (ss : List ByteArray) (e : Ending) (w' : World) : Prop :=
  ∃ v, e = .returned v ∧ w'.ownsRow w.heap.size 9 1 v ss.length (sv ss) ∧ Below w.heap.size w w'
def OwnInts (w : World) (xs : List Int) (e : Ending) (w' : World) : Prop :=
  ∃ v, e = .returned v ∧ w'.ownsRow w.heap.size 2 1 v xs.length (iv xs) ∧ Below w.heap.size w w'

end Go.Proofs.Ytpejbmfapdocaaa
