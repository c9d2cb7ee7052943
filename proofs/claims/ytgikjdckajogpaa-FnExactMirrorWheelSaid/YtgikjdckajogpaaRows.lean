/-
  No cell of these rows narrows 'for every input' (looked for: loops, veiled, ifaces, maps, wideKeys, modest, calm, conditions, laid).
  DERIVED. THE GIVEN ROWS OF THIS SEAT. 8 by the template 'for every input the law returns true; each argument reads behind the call as it read before'; 0 by the template 'total and deterministic' (their statements: YtgikjdckajogpaaTotals.lean).
  GIVEN WITH THE SEED: the statements are not yours to turn. If you find one false, say at which input.
  Laid BY PROGRAM, IN A SANDBOX (cutbox-rows.mjs): the forced cells as the released guide's own fill.sh prints them over the translation ba6a9108fa4efe0e… (all of the seat's roots in one cut). By AI agents, Wed Nov 11 2026. No macro, syntax, notation, axiom, sorry.
-/
import Derived.Test.YtgikjdckajogpaaChecked
import GoSem.Claim
import GoSem.ClaimJoined
import GoSem.ClaimMapViews
import Derived.JoinedTies
import Derived.KernelRfl
namespace Go.Proofs.Ytgikjdckajogpaa
/- THE CELL 'sum', in the pinned program and in every row, IS THE sha256 OF THE DUMP (.gsa) THAT YtgikjdckajogpaaProg.lean LOADS. Nothing in Lean hashes anything: it is a label: what it is worth is what the hold of that sum in a sandbox is worth. -/
noncomputable def Try.pinned : Pinned := { name := "ytgikjdckajogpaa", sum := "ba6a9108fa4efe0ee89eee775688f8a702d4d8afecb87758da22a1f74f067e03", checked := Try.checked }
namespace Rows
def none {H : Type} : Left H := { results := [], args := [] }

/-- 'laws.FnExactMostCrosses': WHATEVER THE INPUT: true; the input reads as it did. -/
def fnExactMostCrossesSpec : ChangeSpec := { name := "fnExactMostCrosses", fn := fun _ => fun
  | [d] => { results := [.lit (.bool true)], args := [d] }
  | _ => none }
def fnExactMostCrossesRow : OpenClaim := { program := "ytgikjdckajogpaa", sum := "ba6a9108fa4efe0ee89eee775688f8a702d4d8afecb87758da22a1f74f067e03", func := "loop.example/g01050/laws.FnExactMostCrosses", spec := "fnExactMostCrosses", apart := false }
def FnExactMostCrossesSaid : Prop := fnExactMostCrossesRow.holds Try.pinned (OpenSpec.ofChange fnExactMostCrossesSpec)

/-- ITS FALSE NEIGHBOUR: 'it returns false'. Refute it at one input. -/
def fnExactMostCrossesWrong : ChangeSpec := { name := "fnExactMostCrosses", fn := fun _ => fun
  | [d] => { results := [.lit (.bool false)], args := [d] }
  | _ => none }
def FnExactMostCrossesWrongFalsely : Prop := fnExactMostCrossesRow.holds Try.pinned (OpenSpec.ofChange fnExactMostCrossesWrong)

/-- 'laws.FnExactIsRim': WHATEVER THE INPUT: true; the input reads as it did. -/
def fnExactIsRimSpec : ChangeSpec := { name := "fnExactIsRim", fn := fun _ => fun
  | [d] => { results := [.lit (.bool true)], args := [d] }
  | _ => none }
def fnExactIsRimRow : OpenClaim := { program := "ytgikjdckajogpaa", sum := "ba6a9108fa4efe0ee89eee775688f8a702d4d8afecb87758da22a1f74f067e03", func := "loop.example/g01050/laws.FnExactIsRim", spec := "fnExactIsRim", apart := false }
def FnExactIsRimSaid : Prop := fnExactIsRimRow.holds Try.pinned (OpenSpec.ofChange fnExactIsRimSpec)

/-- ITS FALSE NEIGHBOUR: 'it returns false'. Refute it at one input. -/
def fnExactIsRimWrong : ChangeSpec := { name := "fnExactIsRim", fn := fun _ => fun
  | [d] => { results := [.lit (.bool false)], args := [d] }
  | _ => none }
def FnExactIsRimWrongFalsely : Prop := fnExactIsRimRow.holds Try.pinned (OpenSpec.ofChange fnExactIsRimWrong)

/-- 'laws.FnExactIsHub': WHATEVER THE INPUT: true; the input reads as it did. -/
def fnExactIsHubSpec : ChangeSpec := { name := "fnExactIsHub", fn := fun _ => fun
  | [d] => { results := [.lit (.bool true)], args := [d] }
  | _ => none }
def fnExactIsHubRow : OpenClaim := { program := "ytgikjdckajogpaa", sum := "ba6a9108fa4efe0ee89eee775688f8a702d4d8afecb87758da22a1f74f067e03", func := "loop.example/g01050/laws.FnExactIsHub", spec := "fnExactIsHub", apart := false }
def FnExactIsHubSaid : Prop := fnExactIsHubRow.holds Try.pinned (OpenSpec.ofChange fnExactIsHubSpec)

/-- ITS FALSE NEIGHBOUR: 'it returns false'. Refute it at one input. -/
def fnExactIsHubWrong : ChangeSpec := { name := "fnExactIsHub", fn := fun _ => fun
  | [d] => { results := [.lit (.bool false)], args := [d] }
  | _ => none }
def FnExactIsHubWrongFalsely : Prop := fnExactIsHubRow.holds Try.pinned (OpenSpec.ofChange fnExactIsHubWrong)

/-- 'laws.FnExactIsWheel': WHATEVER THE INPUT: true; the input reads as it did. -/
def fnExactIsWheelSpec : ChangeSpec := { name := "fnExactIsWheel", fn := fun _ => fun
  | [d] => { results := [.lit (.bool true)], args := [d] }
  | _ => none }
def fnExactIsWheelRow : OpenClaim := { program := "ytgikjdckajogpaa", sum := "ba6a9108fa4efe0ee89eee775688f8a702d4d8afecb87758da22a1f74f067e03", func := "loop.example/g01050/laws.FnExactIsWheel", spec := "fnExactIsWheel", apart := false }
def FnExactIsWheelSaid : Prop := fnExactIsWheelRow.holds Try.pinned (OpenSpec.ofChange fnExactIsWheelSpec)

/-- ITS FALSE NEIGHBOUR: 'it returns false'. Refute it at one input. -/
def fnExactIsWheelWrong : ChangeSpec := { name := "fnExactIsWheel", fn := fun _ => fun
  | [d] => { results := [.lit (.bool false)], args := [d] }
  | _ => none }
def FnExactIsWheelWrongFalsely : Prop := fnExactIsWheelRow.holds Try.pinned (OpenSpec.ofChange fnExactIsWheelWrong)

/-- 'laws.FnExactMirrorHub': WHATEVER THE INPUT: true; the input reads as it did. -/
def fnExactMirrorHubSpec : ChangeSpec := { name := "fnExactMirrorHub", fn := fun _ => fun
  | [d] => { results := [.lit (.bool true)], args := [d] }
  | _ => none }
def fnExactMirrorHubRow : OpenClaim := { program := "ytgikjdckajogpaa", sum := "ba6a9108fa4efe0ee89eee775688f8a702d4d8afecb87758da22a1f74f067e03", func := "loop.example/g01050/laws.FnExactMirrorHub", spec := "fnExactMirrorHub", apart := false }
def FnExactMirrorHubSaid : Prop := fnExactMirrorHubRow.holds Try.pinned (OpenSpec.ofChange fnExactMirrorHubSpec)

/-- ITS FALSE NEIGHBOUR: 'it returns false'. Refute it at one input. -/
def fnExactMirrorHubWrong : ChangeSpec := { name := "fnExactMirrorHub", fn := fun _ => fun
  | [d] => { results := [.lit (.bool false)], args := [d] }
  | _ => none }
def FnExactMirrorHubWrongFalsely : Prop := fnExactMirrorHubRow.holds Try.pinned (OpenSpec.ofChange fnExactMirrorHubWrong)

/-- 'laws.FnExactDishOf': WHATEVER THE INPUT: true; the input reads as it did. -/
def fnExactDishOfSpec : ChangeSpec := { name := "fnExactDishOf", fn := fun _ => fun
  | [d] => { results := [.lit (.bool true)], args := [d] }
  | _ => none }
def fnExactDishOfRow : OpenClaim := { program := "ytgikjdckajogpaa", sum := "ba6a9108fa4efe0ee89eee775688f8a702d4d8afecb87758da22a1f74f067e03", func := "loop.example/g01050/laws.FnExactDishOf", spec := "fnExactDishOf", apart := false }
def FnExactDishOfSaid : Prop := fnExactDishOfRow.holds Try.pinned (OpenSpec.ofChange fnExactDishOfSpec)

/-- ITS FALSE NEIGHBOUR: 'it returns false'. Refute it at one input. -/
def fnExactDishOfWrong : ChangeSpec := { name := "fnExactDishOf", fn := fun _ => fun
  | [d] => { results := [.lit (.bool false)], args := [d] }
  | _ => none }
def FnExactDishOfWrongFalsely : Prop := fnExactDishOfRow.holds Try.pinned (OpenSpec.ofChange fnExactDishOfWrong)

/-- 'laws.FnExactMirrorWheel': WHATEVER THE INPUT: true; the input reads as it did. -/
def fnExactMirrorWheelSpec : ChangeSpec := { name := "fnExactMirrorWheel", fn := fun _ => fun
  | [d] => { results := [.lit (.bool true)], args := [d] }
  | _ => none }
def fnExactMirrorWheelRow : OpenClaim := { program := "ytgikjdckajogpaa", sum := "ba6a9108fa4efe0ee89eee775688f8a702d4d8afecb87758da22a1f74f067e03", func := "loop.example/g01050/laws.FnExactMirrorWheel", spec := "fnExactMirrorWheel", apart := false }
def FnExactMirrorWheelSaid : Prop := fnExactMirrorWheelRow.holds Try.pinned (OpenSpec.ofChange fnExactMirrorWheelSpec)

/-- ITS FALSE NEIGHBOUR: 'it returns false'. Refute it at one input. -/
def fnExactMirrorWheelWrong : ChangeSpec := { name := "fnExactMirrorWheel", fn := fun _ => fun
  | [d] => { results := [.lit (.bool false)], args := [d] }
  | _ => none }
def FnExactMirrorWheelWrongFalsely : Prop := fnExactMirrorWheelRow.holds Try.pinned (OpenSpec.ofChange fnExactMirrorWheelWrong)

/-- 'laws.FnMirrors': WHATEVER THE INPUT: true; the input reads as it did. -/
def fnMirrorsSpec : ChangeSpec := { name := "fnMirrors", fn := fun _ => fun
  | [d] => { results := [.lit (.bool true)], args := [d] }
  | _ => none }
def fnMirrorsRow : OpenClaim := { program := "ytgikjdckajogpaa", sum := "ba6a9108fa4efe0ee89eee775688f8a702d4d8afecb87758da22a1f74f067e03", func := "loop.example/g01050/laws.FnMirrors", spec := "fnMirrors", apart := false }
def FnMirrorsSaid : Prop := fnMirrorsRow.holds Try.pinned (OpenSpec.ofChange fnMirrorsSpec)

/-- ITS FALSE NEIGHBOUR: 'it returns false'. Refute it at one input. -/
def fnMirrorsWrong : ChangeSpec := { name := "fnMirrors", fn := fun _ => fun
  | [d] => { results := [.lit (.bool false)], args := [d] }
  | _ => none }
def FnMirrorsWrongFalsely : Prop := fnMirrorsRow.holds Try.pinned (OpenSpec.ofChange fnMirrorsWrong)

/- THE SECOND FORM. 'bulk': how many values and letters a reading holds, each counted each time it is reached (what is shared counts as often as it is met; a slice's spare places count too). A statement '..UptoSaid' is the law's where the arguments, and the package variables that the reading takes, are together of bulk at most 1048576: NARROWER than '..Said'. Prove '..Said' where nothing that the law and all that it calls make is longer than what came in: it says more and counts as full. Else prove '..UptoSaid'. A law counts once. -/
mutual
def uptoBulk {H : Type} : DataW H → Nat
  | .lit (.string bytes) => bytes.length + 1
  | .lit _ => 1
  | .nil => 1
  | .ptr d => uptoBulk d + 1
  | .slice elems spare => uptoBulkAll elems + uptoBulkAll spare + 1
  | .agg parts => uptoBulkAll parts + 1
  | .iface _ d => uptoBulk d + 1
  | .map entries => uptoBulkEntries entries + 1
  | .held _ => 1
def uptoBulkAll {H : Type} : List (DataW H) → Nat
  | [] => 0
  | d :: r => uptoBulk d + uptoBulkAll r
def uptoBulkEntries {H : Type} : List (Lit × DataW H) → Nat
  | [] => 0
  | x :: r => uptoBulkEntry x + uptoBulkEntries r
def uptoBulkEntry {H : Type} : Lit × DataW H → Nat
  | (.string bytes, d) => bytes.length + uptoBulk d + 1
  | (_, d) => uptoBulk d + 1
 end
def uptoSmall : (H : Type) → List (DataW H) → Bool := fun _ ds => decide (uptoBulkAll ds ≤ 1048576)
def OpenSpec.upto (s : _root_.Go.ChangeSpec) : _root_.Go.OpenSpec := { _root_.Go.OpenSpec.ofChange s with cond := some uptoSmall }

/-- 'laws.FnExactMostCrosses', WHERE WHAT IT READS IS OF BULK AT MOST 1048576: true; the input reads as it did. -/
def fnExactMostCrossesUptoRow : OpenClaim := { program := "ytgikjdckajogpaa", sum := "ba6a9108fa4efe0ee89eee775688f8a702d4d8afecb87758da22a1f74f067e03", func := "loop.example/g01050/laws.FnExactMostCrosses", spec := "fnExactMostCrosses", apart := false, narrowed := true }
def FnExactMostCrossesUptoSaid : Prop := fnExactMostCrossesUptoRow.holds Try.pinned (OpenSpec.upto fnExactMostCrossesSpec)

/-- 'laws.FnExactIsRim', WHERE WHAT IT READS IS OF BULK AT MOST 1048576: true; the input reads as it did. -/
def fnExactIsRimUptoRow : OpenClaim := { program := "ytgikjdckajogpaa", sum := "ba6a9108fa4efe0ee89eee775688f8a702d4d8afecb87758da22a1f74f067e03", func := "loop.example/g01050/laws.FnExactIsRim", spec := "fnExactIsRim", apart := false, narrowed := true }
def FnExactIsRimUptoSaid : Prop := fnExactIsRimUptoRow.holds Try.pinned (OpenSpec.upto fnExactIsRimSpec)

/-- 'laws.FnExactIsHub', WHERE WHAT IT READS IS OF BULK AT MOST 1048576: true; the input reads as it did. -/
def fnExactIsHubUptoRow : OpenClaim := { program := "ytgikjdckajogpaa", sum := "ba6a9108fa4efe0ee89eee775688f8a702d4d8afecb87758da22a1f74f067e03", func := "loop.example/g01050/laws.FnExactIsHub", spec := "fnExactIsHub", apart := false, narrowed := true }
def FnExactIsHubUptoSaid : Prop := fnExactIsHubUptoRow.holds Try.pinned (OpenSpec.upto fnExactIsHubSpec)

/-- 'laws.FnExactIsWheel', WHERE WHAT IT READS IS OF BULK AT MOST 1048576: true; the input reads as it did. -/
def fnExactIsWheelUptoRow : OpenClaim := { program := "ytgikjdckajogpaa", sum := "ba6a9108fa4efe0ee89eee775688f8a702d4d8afecb87758da22a1f74f067e03", func := "loop.example/g01050/laws.FnExactIsWheel", spec := "fnExactIsWheel", apart := false, narrowed := true }
def FnExactIsWheelUptoSaid : Prop := fnExactIsWheelUptoRow.holds Try.pinned (OpenSpec.upto fnExactIsWheelSpec)

/-- 'laws.FnExactMirrorHub', WHERE WHAT IT READS IS OF BULK AT MOST 1048576: true; the input reads as it did. -/
def fnExactMirrorHubUptoRow : OpenClaim := { program := "ytgikjdckajogpaa", sum := "ba6a9108fa4efe0ee89eee775688f8a702d4d8afecb87758da22a1f74f067e03", func := "loop.example/g01050/laws.FnExactMirrorHub", spec := "fnExactMirrorHub", apart := false, narrowed := true }
def FnExactMirrorHubUptoSaid : Prop := fnExactMirrorHubUptoRow.holds Try.pinned (OpenSpec.upto fnExactMirrorHubSpec)

/-- 'laws.FnExactDishOf', WHERE WHAT IT READS IS OF BULK AT MOST 1048576: true; the input reads as it did. -/
def fnExactDishOfUptoRow : OpenClaim := { program := "ytgikjdckajogpaa", sum := "ba6a9108fa4efe0ee89eee775688f8a702d4d8afecb87758da22a1f74f067e03", func := "loop.example/g01050/laws.FnExactDishOf", spec := "fnExactDishOf", apart := false, narrowed := true }
def FnExactDishOfUptoSaid : Prop := fnExactDishOfUptoRow.holds Try.pinned (OpenSpec.upto fnExactDishOfSpec)

/-- 'laws.FnExactMirrorWheel', WHERE WHAT IT READS IS OF BULK AT MOST 1048576: true; the input reads as it did. -/
def fnExactMirrorWheelUptoRow : OpenClaim := { program := "ytgikjdckajogpaa", sum := "ba6a9108fa4efe0ee89eee775688f8a702d4d8afecb87758da22a1f74f067e03", func := "loop.example/g01050/laws.FnExactMirrorWheel", spec := "fnExactMirrorWheel", apart := false, narrowed := true }
def FnExactMirrorWheelUptoSaid : Prop := fnExactMirrorWheelUptoRow.holds Try.pinned (OpenSpec.upto fnExactMirrorWheelSpec)

/-- 'laws.FnMirrors', WHERE WHAT IT READS IS OF BULK AT MOST 1048576: true; the input reads as it did. -/
def fnMirrorsUptoRow : OpenClaim := { program := "ytgikjdckajogpaa", sum := "ba6a9108fa4efe0ee89eee775688f8a702d4d8afecb87758da22a1f74f067e03", func := "loop.example/g01050/laws.FnMirrors", spec := "fnMirrors", apart := false, narrowed := true }
def FnMirrorsUptoSaid : Prop := fnMirrorsUptoRow.holds Try.pinned (OpenSpec.upto fnMirrorsSpec)

end Rows
end Go.Proofs.Ytgikjdckajogpaa
