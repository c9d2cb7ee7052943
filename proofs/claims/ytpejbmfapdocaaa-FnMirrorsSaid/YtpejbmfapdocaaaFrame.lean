/- The frame of every law of this seat: if the law's own walk returns true and leaves all old memory alone, then its given row holds. No condition. -/
import Derived.Test.YtpejbmfapdocaaaRows
import Derived.ProofKit
import Derived.Below
import Derived.Carry
import Derived.Lib.SmallJoins
import Derived.SliceStrings
import Derived.OpenShut
import Derived.Deep.Strs
namespace Go.Proofs.Ytpejbmfapdocaaa
open Go.ChangeShapes Go.WideShapes Go.ChangeAt Go.RowKit Go.Joins

theorem Try.own : ownKnob Try.prog.godebug = none := by kernel_rfl
theorem Try.laidOut : laidOutB Try.prog = true := by kernel_rfl

section
variable {H : Type} {enc : TypeId × Value → H} {P : Program}
theorem trodAll_below (hl : laidOutB P = true) {W W' : World} (hb : Below W.heap.size W W') {sp : Nat → Bool} : ∀ {ts : List TypeId} {vs : List Value} {ds : List (DataW H)} {ps : List MemPlace},
    (∀ t ∈ ts, P.readableRec t = true ∧ t < P.types.size) → DataW.TrodAll enc P W 0 (fun _ => true) true ts vs ds ps → (∀ x ∈ ps, x.block < W.heap.size) → (∀ x ∈ ps, sp x.block = true) → DataW.TrodAll enc P W' 0 sp true ts vs ds ps
  | [], [], [], _, _, h, _, _ => h
  | t :: ts, v :: vs, d :: ds, ps, hr, h, hlt, hsp => by
    obtain ⟨p, q, h1, h2, rfl⟩ := h
    refine ⟨p, q, ?_, ?_, rfl⟩
    · exact WideElems.Trod_stays hl (hr t (by simp)).1 (hr t (by simp)).2 h1 (fun x hx => hb.same (hlt x (by simp [hx]))) (fun x hx => hsp x (by simp [hx]))
    · exact trodAll_below hl hb (fun t' ht' => hr t' (by simp [ht'])) h2 (fun x hx => hlt x (by simp [hx])) (fun x hx => hsp x (by simp [hx]))
  | [], [], _ :: _, _, _, h, _, _ => by cases h
  | [], _ :: _, _, _, _, h, _, _ => by cases h
  | _ :: _, [], _, _, _, h, _, _ => by cases h
  | _ :: _, _ :: _, [], _, _, h, _, _ => by cases h

theorem trodAll_length {w : World} {b : Nat} {sp : Nat → Bool} {hd : Bool} : ∀ {ts : List TypeId} {vs : List Value} {ds : List (DataW H)} {ps : List MemPlace}, DataW.TrodAll enc P w b sp hd ts vs ds ps → ds.length = ts.length
  | [], [], [], _, _ => rfl
  | _ :: _, _ :: _, _ :: _, _, h => by obtain ⟨_, _, _, h2, _⟩ := h; simp [trodAll_length h2]
  | [], [], _ :: _, _, h => by cases h
  | [], _ :: _, _, _, h => by cases h
  | _ :: _, [], _, _, h => by cases h
  | _ :: _, _ :: _, [], _, h => by cases h

theorem law_post {f : Func} {s : ChangeSpec} {W W' : World} {args : Array Value} {ds : List (DataW H)} {before : List MemPlace} {tb : TypeId}
    (hl : laidOutB P = true) (hread : ∀ t ∈ f.params.toList, P.readableRec t = true ∧ t < P.types.size) (hb : P.underlying tb = some .bool) (hrt : f.resultTypes = #[tb])
    (hv : s.vars = []) (hf : ∀ ds : List (DataW H), ds.length = f.params.size → s.fn H ds = { results := [.lit (.bool true)], args := ds })
    (hW : DataW.Whole enc P f.params.toList s.vars false W args.toList ds [] before) (hA : DataW.TrodAll enc P W 0 (fun _ => true) true f.params.toList args.toList ds before)
    (hbel : Below W.heap.size W W') : s.post enc P f false true false false W args (.bool true) W' := by
  have hlt : ∀ p ∈ before, p.block < W.heap.size := fun p hp => hW.lt p hp
  have hlen : ds.length = f.params.size := by rw [trodAll_length hA, Array.length_toList]
  have hfn : s.fn H (ds ++ []) = { results := [.lit (.bool true)], args := ds } := by rw [List.append_nil]; exact hf ds hlen
  have hargs : ∀ sp : Nat → Bool, (∀ p ∈ before, sp p.block = true) → DataW.TrodAll enc P W' 0 sp true f.params.toList args.toList (s.fn H (ds ++ [])).args before := fun sp hsp => by
    rw [hfn]; exact trodAll_below hl hbel hread hA hlt hsp
  have hvars : ∀ sp : Nat → Bool, DataW.TrodVars enc P W' sp s.vars (s.fn H (ds ++ [])).vars [] := fun sp => by rw [hfn, hv]; rfl
  have hres : ∀ (b : Nat) (sp : Nat → Bool) (hd : Bool), DataW.TrodAll enc P W' b sp hd f.resultTypes.toList ((Value.bool true).resultList f.resultTypes.size) (s.fn H (ds ++ [])).results [] := fun b sp hd => by
    rw [hfn, hrt]; exact trodAll_mk1 (shut_bool hb _)
  have hok : ∀ (j : Nat) (t : TypeId) (r : Value), f.resultTypes[j]? = some t → ((Value.bool true).resultList f.resultTypes.size)[j]? = some r → Value.okWide P W' .any 0 t r := ok_one hrt rfl (okWide_bool_mk hb _)
  have hold : ∀ p ∈ before, (fun b => decide (b < W.heap.size)) p.block = true := fun p hp => by simpa using hlt p hp
  refine ⟨ds, [], before, [], before, [], hW, hres _ _ _, hargs _ hold, hvars _, World.keptBut_mono (fun p hp => ⟨hp, ?_⟩) (hbel.frame (· ∈ before)), fun _ => ?_⟩
  · exact Or.inr (by simpa using hp)
  · obtain ⟨_, _, _, _, _, hz, hn⟩ := hW
    refine ⟨hok, _, _, ([] ++ before) ++ [], ⟨[] ++ before, [], trodAll_append (hargs _ (fun _ _ => rfl)) (hres _ _ _), hvars _, rfl, ?_, ?_⟩, ?_⟩
    · intro b off hp
      have hin : MemPlace.cell b off ∈ before := by simpa using hp
      rw [hbel.frozen (hlt _ hin)]
      exact hz b off hin
    · intro ha; cases ha
    · intro p hp _
      simpa using hp
end

set_option maxRecDepth 100000 in
/-- The law's row, from its walk: 'hwit' is one start that fits. -/
theorem law_lifted {F : FuncId} {fn : Func} {s : ChangeSpec} {conds : List PathCond} {tb : TypeId} (hfn : Try.checked.prog.funcs[F]? = some fn)
    (noInit : Try.checked.prog.inits.idxOf? F = none) (hread : ∀ t ∈ fn.params.toList, Try.prog.readableRec t = true ∧ t < Try.prog.types.size)
    (htb : Try.prog.underlying tb = some .bool) (hrt : fn.resultTypes = #[tb])
    (hv : s.vars = []) (hf : ∀ (H : Type) (ds : List (DataW H)), ds.length = fn.params.size → s.fn H ds = { results := [.lit (.bool true)], args := ds })
    (hwit : ∀ (os : Os) (H : Type) (enc : TypeId × Value → H), ∃ (w : World) (tape : Tape) (i : Input), w.os = os ∧ (w.forCall tape i).Shaped Try.checked.prog ∧ i.vars = [] ∧ Input.okWide Try.checked.prog (w.forCall tape i) .any w.heap.size F i ∧
      s.pre6 enc Try.checked.prog fn conds false (w.forCall tape i).memory i.args ∧ ({} : Assume).holds Try.checked.prog (lone (Frame.enter Try.checked.prog F i.args .normal) [] (w.forCall tape i)))
    (hcall : ∀ (H : Type) (enc : TypeId × Value → H) (W : World) (base : Nat) (args : Array Value) (ds : List (DataW H)) (p : List MemPlace),
      (∀ (j : Nat) t v, fn.params[j]? = some t → args[j]? = some v → Value.okWide Try.prog W .any base t v) →
      DataW.TrodAll enc Try.prog W 0 (fun _ => true) true fn.params.toList args.toList ds p → (∀ x ∈ p, x.block < W.heap.size) →
      Calls Try.prog F args W fun e W' => e = .returned (.bool true) ∧ Below W.heap.size W W')
    (os : Os) (started : os.Started) (H : Type) (enc : TypeId × Value → H) :
    ReturnsInHanded {} Try.checked os F .any (s.pre6 enc Try.prog fn conds false) (s.post enc Try.prog fn false true false false) := by
  refine returnsInHanded_of_change (C := Try.checked) Try.own started noInit hfn (hwit os H enc) ?_
  intro W base args ds gs before hval hW _ _
  have hW0 := hW
  obtain ⟨p, q, hA, hV, rfl, hz, hn⟩ := hW
  rw [hv] at hV
  obtain ⟨rfl, rfl⟩ := trodVars_none hV
  rw [List.append_nil] at hW0
  refine (hcall H enc W base args ds p hval hA (fun x hx => hW0.lt x hx)).mono fun e W' ⟨he, hb⟩ => ⟨.bool true, he, ?_⟩
  exact law_post Try.laidOut hread htb hrt hv (hf H) hW0 hA hb

/-! ### Arguments opened: a struct whose cells are all int64, however its fields nest -/
theorem array_of_ints (cs : Array Value) (n : Nat) (hn : cs.size = n) (h : ∀ i, i < n → ∃ x : Int, cs[i]? = some (.int .i64 x) ∧ IntKind.i64.has x) :
    ∃ xs : List Int, xs.length = n ∧ cs = (xs.map (Value.int .i64)).toArray ∧ ∀ x ∈ xs, IntKind.i64.has x := by
  obtain ⟨l⟩ := cs
  simp only [List.size_toArray] at hn
  simp only [List.getElem?_toArray] at h
  suffices ∃ xs : List Int, xs.length = n ∧ l = xs.map (Value.int .i64) ∧ ∀ x ∈ xs, IntKind.i64.has x by
    obtain ⟨xs, h1, h2, h3⟩ := this
    exact ⟨xs, h1, by rw [h2], h3⟩
  induction l generalizing n with
  | nil => exact ⟨[], by simpa using hn, rfl, by simp⟩
  | cons v l ih =>
    obtain ⟨x, hx, hr⟩ := h 0 (by rw [← hn]; simp)
    obtain ⟨xs, h1, h2, h3⟩ := ih (n - 1) (by simp at hn; omega) (fun i hi => by simpa using h (i + 1) (by omega))
    refine ⟨x :: xs, by simp at hn; simp [h1]; omega, by simp at hx; simp [hx, h2], ?_⟩
    intro y hy
    rcases List.mem_cons.1 hy with rfl | hy
    · exact hr
    · exact h3 y hy

theorem open_flat {P : Program} {W : World} {base : Nat} {t ti : TypeId} {fs : Array Field} {v : Value} (n : Nat) (hs : P.underlying t = some (.struct fs)) (hct : P.cellTypes P.depth t = some (List.replicate n ti)) (hn : P.cellsOf t = n)
    (hti : P.underlying ti = some (.int .i64)) (hv : Value.okWide P W .any base t v) : ∃ xs : List Int, xs.length = n ∧ v = .agg (xs.map (Value.int .i64)).toArray ∧ ∀ x ∈ xs, IntKind.i64.has x := by
  simp only [Value.okWide, hs] at hv
  obtain ⟨cs, rfl, hsz, ts, hts, _, hall⟩ := hv
  rw [hct] at hts
  cases hts
  rw [hn] at hsz
  obtain ⟨xs, h1, h2, h3⟩ := array_of_ints cs n hsz (fun i hi => by
    have hg : cs[i]? = some (cs[i]'(by omega)) := Array.getElem?_eq_getElem (by omega)
    obtain ⟨u, hu, hok⟩ := hall i _ hg
    have hui : u = ti := by
      rw [List.getElem?_replicate] at hu
      split at hu
      · simpa using hu.symm
      · cases hu
    subst hui
    cases hc : cs[i]'(by omega) <;> simp [Cell.okWide, Cell.ok, hti, hc] at hok
    obtain ⟨rfl, hr⟩ := hok
    exact ⟨_, by rw [hg, hc], hr⟩)
  exact ⟨xs, h1, by rw [h2], h3⟩

theorem open_flat2 {P : Program} {W : World} {base : Nat} {t ti : TypeId} {fs : Array Field} {v : Value} (hs : P.underlying t = some (.struct fs)) (hct : P.cellTypes P.depth t = some [ti, ti]) (hn : P.cellsOf t = 2)
    (hti : P.underlying ti = some (.int .i64)) (hv : Value.okWide P W .any base t v) : ∃ a b : Int, v = .agg #[.int .i64 a, .int .i64 b] ∧ IntKind.i64.has a ∧ IntKind.i64.has b := by
  obtain ⟨xs, h1, rfl, h3⟩ := open_flat 2 hs hct hn hti hv
  match xs, h1 with
  | [a, b], _ => exact ⟨a, b, rfl, h3 a (by simp), h3 b (by simp)⟩

theorem open_flat3 {P : Program} {W : World} {base : Nat} {t ti : TypeId} {fs : Array Field} {v : Value} (hs : P.underlying t = some (.struct fs)) (hct : P.cellTypes P.depth t = some [ti, ti, ti]) (hn : P.cellsOf t = 3)
    (hti : P.underlying ti = some (.int .i64)) (hv : Value.okWide P W .any base t v) : ∃ a b c : Int, v = .agg #[.int .i64 a, .int .i64 b, .int .i64 c] ∧ IntKind.i64.has a ∧ IntKind.i64.has b ∧ IntKind.i64.has c := by
  obtain ⟨xs, h1, rfl, h3⟩ := open_flat 3 hs hct hn hti hv
  match xs, h1 with
  | [a, b, c], _ => exact ⟨a, b, c, rfl, h3 a (by simp), h3 b (by simp), h3 c (by simp)⟩

theorem open_flat5 {P : Program} {W : World} {base : Nat} {t ti : TypeId} {fs : Array Field} {v : Value} (hs : P.underlying t = some (.struct fs)) (hct : P.cellTypes P.depth t = some [ti, ti, ti, ti, ti]) (hn : P.cellsOf t = 5)
    (hti : P.underlying ti = some (.int .i64)) (hv : Value.okWide P W .any base t v) : ∃ a b c d e : Int, v = .agg #[.int .i64 a, .int .i64 b, .int .i64 c, .int .i64 d, .int .i64 e] ∧
      IntKind.i64.has a ∧ IntKind.i64.has b ∧ IntKind.i64.has c ∧ IntKind.i64.has d ∧ IntKind.i64.has e := by
  obtain ⟨xs, h1, rfl, h3⟩ := open_flat 5 hs hct hn hti hv
  match xs, h1 with
  | [a, b, c, d, e], _ => exact ⟨a, b, c, d, e, rfl, h3 a (by simp), h3 b (by simp), h3 c (by simp), h3 d (by simp), h3 e (by simp)⟩

theorem open_flat9 {P : Program} {W : World} {base : Nat} {t ti : TypeId} {fs : Array Field} {v : Value} (hs : P.underlying t = some (.struct fs)) (hct : P.cellTypes P.depth t = some [ti, ti, ti, ti, ti, ti, ti, ti, ti]) (hn : P.cellsOf t = 9)
    (hti : P.underlying ti = some (.int .i64)) (hv : Value.okWide P W .any base t v) : ∃ a b c d e f g h i : Int, v = .agg #[.int .i64 a, .int .i64 b, .int .i64 c, .int .i64 d, .int .i64 e, .int .i64 f, .int .i64 g, .int .i64 h, .int .i64 i] ∧
      (IntKind.i64.has a ∧ IntKind.i64.has b ∧ IntKind.i64.has c ∧ IntKind.i64.has d ∧ IntKind.i64.has e ∧ IntKind.i64.has f ∧ IntKind.i64.has g ∧ IntKind.i64.has h ∧ IntKind.i64.has i) := by
  obtain ⟨xs, h1, rfl, h3⟩ := open_flat 9 hs hct hn hti hv
  match xs, h1 with
  | [a, b, c, d, e, f, g, h, i], _ => exact ⟨a, b, c, d, e, f, g, h, i, rfl, h3 a (by simp), h3 b (by simp), h3 c (by simp), h3 d (by simp), h3 e (by simp), h3 f (by simp), h3 g (by simp), h3 h (by simp), h3 i (by simp)⟩

theorem open_i64 {H : Type} {enc : TypeId × Value → H} {P : Program} {W : World} {b0 base : Nat} {t : TypeId} {v : Value} {d : DataW H} {ps : List MemPlace} {sp : Nat → Bool} {hd : Bool}
    (ht : P.underlying t = some (.int .i64)) (hv : Value.okWide P W .any b0 t v) (h : DataW.Trod enc P W base sp hd t v d ps) : ∃ n : Int, v = .int .i64 n ∧ IntKind.i64.has n := by
  obtain ⟨n, rfl, _, _, hw⟩ := open_int ht hv h
  simp only [Lit.wf, Bool.and_eq_true, decide_eq_true_eq] at hw
  exact ⟨n, rfl, hw⟩

end Go.Proofs.Ytpejbmfapdocaaa
