/-
  No cell of these rows narrows 'for every input' (looked for: loops, veiled, ifaces, maps, wideKeys, modest, calm, conditions, laid).
  DERIVED. THE GIVEN ROWS OF THIS SEAT. 9 by the template 'for every input the law returns true; each argument reads behind the call as it read before'; 0 by the template 'total and deterministic' (their statements: YtpoeglfchgdmoaaTotals.lean).
  GIVEN WITH THE SEED: the statements are not yours to turn. If you find one false, say at which input.
  Laid BY PROGRAM, IN A SANDBOX (cutbox-rows.mjs): the forced cells as the released guide's own fill.sh prints them over the translation e7bc184ae3ba3661… (all of the seat's roots in one cut). By AI agents, Wed Nov 11 2026. No macro, syntax, notation, axiom, sorry.
-/
import Derived.Test.YtpoeglfchgdmoaaChecked
import GoSem.Claim
import GoSem.ClaimJoined
import GoSem.ClaimMapViews
import Derived.JoinedTies
import Derived.KernelRfl
namespace Go.Proofs.Ytpoeglfchgdmoaa
/- THE CELL 'sum', in the pinned program and in every row, IS THE sha256 OF THE DUMP (.gsa) THAT YtpoeglfchgdmoaaProg.lean LOADS. Nothing in Lean hashes anything: it is a label: what it is worth is what the hold of that sum in a sandbox is worth. -/
noncomputable def Try.pinned : Pinned := { name := "ytpoeglfchgdmoaa", sum := "e7bc184ae3ba366144ddef5e98afddbe0ba260dbc45f80a2c309d20904eaddbc", checked := Try.checked }
namespace Rows
def none {H : Type} : Left H := { results := [], args := [] }

/-- 'laws.FnExactMeasureText': WHATEVER THE INPUT: true; the input reads as it did. -/
def fnExactMeasureTextSpec : ChangeSpec := { name := "fnExactMeasureText", fn := fun _ => fun
  | [d] => { results := [.lit (.bool true)], args := [d] }
  | _ => none }
def fnExactMeasureTextRow : OpenClaim := { program := "ytpoeglfchgdmoaa", sum := "e7bc184ae3ba366144ddef5e98afddbe0ba260dbc45f80a2c309d20904eaddbc", func := "loop.example/g01050/laws.FnExactMeasureText", spec := "fnExactMeasureText", recurses := true, apart := false }
def FnExactMeasureTextSaid : Prop := fnExactMeasureTextRow.holds Try.pinned (OpenSpec.ofChange fnExactMeasureTextSpec)

/-- ITS FALSE NEIGHBOUR: 'it returns false'. Refute it at one input. -/
def fnExactMeasureTextWrong : ChangeSpec := { name := "fnExactMeasureText", fn := fun _ => fun
  | [d] => { results := [.lit (.bool false)], args := [d] }
  | _ => none }
def FnExactMeasureTextWrongFalsely : Prop := fnExactMeasureTextRow.holds Try.pinned (OpenSpec.ofChange fnExactMeasureTextWrong)

/-- 'laws.FnExactReadMeasure': WHATEVER THE INPUT: true; the input reads as it did. -/
def fnExactReadMeasureSpec : ChangeSpec := { name := "fnExactReadMeasure", fn := fun _ => fun
  | [d] => { results := [.lit (.bool true)], args := [d] }
  | _ => none }
def fnExactReadMeasureRow : OpenClaim := { program := "ytpoeglfchgdmoaa", sum := "e7bc184ae3ba366144ddef5e98afddbe0ba260dbc45f80a2c309d20904eaddbc", func := "loop.example/g01050/laws.FnExactReadMeasure", spec := "fnExactReadMeasure", recurses := true, apart := false }
def FnExactReadMeasureSaid : Prop := fnExactReadMeasureRow.holds Try.pinned (OpenSpec.ofChange fnExactReadMeasureSpec)

/-- ITS FALSE NEIGHBOUR: 'it returns false'. Refute it at one input. -/
def fnExactReadMeasureWrong : ChangeSpec := { name := "fnExactReadMeasure", fn := fun _ => fun
  | [d] => { results := [.lit (.bool false)], args := [d] }
  | _ => none }
def FnExactReadMeasureWrongFalsely : Prop := fnExactReadMeasureRow.holds Try.pinned (OpenSpec.ofChange fnExactReadMeasureWrong)

/-- 'laws.FnMeasures': WHATEVER THE INPUT: true; the input reads as it did. -/
def fnMeasuresSpec : ChangeSpec := { name := "fnMeasures", fn := fun _ => fun
  | [d] => { results := [.lit (.bool true)], args := [d] }
  | _ => none }
def fnMeasuresRow : OpenClaim := { program := "ytpoeglfchgdmoaa", sum := "e7bc184ae3ba366144ddef5e98afddbe0ba260dbc45f80a2c309d20904eaddbc", func := "loop.example/g01050/laws.FnMeasures", spec := "fnMeasures", recurses := true, apart := false }
def FnMeasuresSaid : Prop := fnMeasuresRow.holds Try.pinned (OpenSpec.ofChange fnMeasuresSpec)

/-- ITS FALSE NEIGHBOUR: 'it returns false'. Refute it at one input. -/
def fnMeasuresWrong : ChangeSpec := { name := "fnMeasures", fn := fun _ => fun
  | [d] => { results := [.lit (.bool false)], args := [d] }
  | _ => none }
def FnMeasuresWrongFalsely : Prop := fnMeasuresRow.holds Try.pinned (OpenSpec.ofChange fnMeasuresWrong)

/-- 'laws.FnExactIntervalText': WHATEVER THE INPUT: true; the input reads as it did. -/
def fnExactIntervalTextSpec : ChangeSpec := { name := "fnExactIntervalText", fn := fun _ => fun
  | [d] => { results := [.lit (.bool true)], args := [d] }
  | _ => none }
def fnExactIntervalTextRow : OpenClaim := { program := "ytpoeglfchgdmoaa", sum := "e7bc184ae3ba366144ddef5e98afddbe0ba260dbc45f80a2c309d20904eaddbc", func := "loop.example/g01050/laws.FnExactIntervalText", spec := "fnExactIntervalText", recurses := true, apart := false }
def FnExactIntervalTextSaid : Prop := fnExactIntervalTextRow.holds Try.pinned (OpenSpec.ofChange fnExactIntervalTextSpec)

/-- ITS FALSE NEIGHBOUR: 'it returns false'. Refute it at one input. -/
def fnExactIntervalTextWrong : ChangeSpec := { name := "fnExactIntervalText", fn := fun _ => fun
  | [d] => { results := [.lit (.bool false)], args := [d] }
  | _ => none }
def FnExactIntervalTextWrongFalsely : Prop := fnExactIntervalTextRow.holds Try.pinned (OpenSpec.ofChange fnExactIntervalTextWrong)

/-- 'laws.FnExactReadInterval': WHATEVER THE INPUT: true; the input reads as it did. -/
def fnExactReadIntervalSpec : ChangeSpec := { name := "fnExactReadInterval", fn := fun _ => fun
  | [d] => { results := [.lit (.bool true)], args := [d] }
  | _ => none }
def fnExactReadIntervalRow : OpenClaim := { program := "ytpoeglfchgdmoaa", sum := "e7bc184ae3ba366144ddef5e98afddbe0ba260dbc45f80a2c309d20904eaddbc", func := "loop.example/g01050/laws.FnExactReadInterval", spec := "fnExactReadInterval", recurses := true, apart := false }
def FnExactReadIntervalSaid : Prop := fnExactReadIntervalRow.holds Try.pinned (OpenSpec.ofChange fnExactReadIntervalSpec)

/-- ITS FALSE NEIGHBOUR: 'it returns false'. Refute it at one input. -/
def fnExactReadIntervalWrong : ChangeSpec := { name := "fnExactReadInterval", fn := fun _ => fun
  | [d] => { results := [.lit (.bool false)], args := [d] }
  | _ => none }
def FnExactReadIntervalWrongFalsely : Prop := fnExactReadIntervalRow.holds Try.pinned (OpenSpec.ofChange fnExactReadIntervalWrong)

/-- 'laws.FnIntervalTexts': WHATEVER THE INPUT: true; the input reads as it did. -/
def fnIntervalTextsSpec : ChangeSpec := { name := "fnIntervalTexts", fn := fun _ => fun
  | [d] => { results := [.lit (.bool true)], args := [d] }
  | _ => none }
def fnIntervalTextsRow : OpenClaim := { program := "ytpoeglfchgdmoaa", sum := "e7bc184ae3ba366144ddef5e98afddbe0ba260dbc45f80a2c309d20904eaddbc", func := "loop.example/g01050/laws.FnIntervalTexts", spec := "fnIntervalTexts", recurses := true, apart := false }
def FnIntervalTextsSaid : Prop := fnIntervalTextsRow.holds Try.pinned (OpenSpec.ofChange fnIntervalTextsSpec)

/-- ITS FALSE NEIGHBOUR: 'it returns false'. Refute it at one input. -/
def fnIntervalTextsWrong : ChangeSpec := { name := "fnIntervalTexts", fn := fun _ => fun
  | [d] => { results := [.lit (.bool false)], args := [d] }
  | _ => none }
def FnIntervalTextsWrongFalsely : Prop := fnIntervalTextsRow.holds Try.pinned (OpenSpec.ofChange fnIntervalTextsWrong)

/-- 'laws.FnExactHubText': WHATEVER THE INPUT: true; the input reads as it did. -/
def fnExactHubTextSpec : ChangeSpec := { name := "fnExactHubText", fn := fun _ => fun
  | [d] => { results := [.lit (.bool true)], args := [d] }
  | _ => none }
def fnExactHubTextRow : OpenClaim := { program := "ytpoeglfchgdmoaa", sum := "e7bc184ae3ba366144ddef5e98afddbe0ba260dbc45f80a2c309d20904eaddbc", func := "loop.example/g01050/laws.FnExactHubText", spec := "fnExactHubText", recurses := true, apart := false }
def FnExactHubTextSaid : Prop := fnExactHubTextRow.holds Try.pinned (OpenSpec.ofChange fnExactHubTextSpec)

/-- ITS FALSE NEIGHBOUR: 'it returns false'. Refute it at one input. -/
def fnExactHubTextWrong : ChangeSpec := { name := "fnExactHubText", fn := fun _ => fun
  | [d] => { results := [.lit (.bool false)], args := [d] }
  | _ => none }
def FnExactHubTextWrongFalsely : Prop := fnExactHubTextRow.holds Try.pinned (OpenSpec.ofChange fnExactHubTextWrong)

/-- 'laws.FnExactReadHub': WHATEVER THE INPUT: true; the input reads as it did. -/
def fnExactReadHubSpec : ChangeSpec := { name := "fnExactReadHub", fn := fun _ => fun
  | [d] => { results := [.lit (.bool true)], args := [d] }
  | _ => none }
def fnExactReadHubRow : OpenClaim := { program := "ytpoeglfchgdmoaa", sum := "e7bc184ae3ba366144ddef5e98afddbe0ba260dbc45f80a2c309d20904eaddbc", func := "loop.example/g01050/laws.FnExactReadHub", spec := "fnExactReadHub", recurses := true, apart := false }
def FnExactReadHubSaid : Prop := fnExactReadHubRow.holds Try.pinned (OpenSpec.ofChange fnExactReadHubSpec)

/-- ITS FALSE NEIGHBOUR: 'it returns false'. Refute it at one input. -/
def fnExactReadHubWrong : ChangeSpec := { name := "fnExactReadHub", fn := fun _ => fun
  | [d] => { results := [.lit (.bool false)], args := [d] }
  | _ => none }
def FnExactReadHubWrongFalsely : Prop := fnExactReadHubRow.holds Try.pinned (OpenSpec.ofChange fnExactReadHubWrong)

/-- 'laws.FnHubTexts': WHATEVER THE INPUT: true; the input reads as it did. -/
def fnHubTextsSpec : ChangeSpec := { name := "fnHubTexts", fn := fun _ => fun
  | [d] => { results := [.lit (.bool true)], args := [d] }
  | _ => none }
def fnHubTextsRow : OpenClaim := { program := "ytpoeglfchgdmoaa", sum := "e7bc184ae3ba366144ddef5e98afddbe0ba260dbc45f80a2c309d20904eaddbc", func := "loop.example/g01050/laws.FnHubTexts", spec := "fnHubTexts", recurses := true, apart := false }
def FnHubTextsSaid : Prop := fnHubTextsRow.holds Try.pinned (OpenSpec.ofChange fnHubTextsSpec)

/-- ITS FALSE NEIGHBOUR: 'it returns false'. Refute it at one input. -/
def fnHubTextsWrong : ChangeSpec := { name := "fnHubTexts", fn := fun _ => fun
  | [d] => { results := [.lit (.bool false)], args := [d] }
  | _ => none }
def FnHubTextsWrongFalsely : Prop := fnHubTextsRow.holds Try.pinned (OpenSpec.ofChange fnHubTextsWrong)

/- THE SECOND FORM. 'bulk': how many values and letters a reading holds, each counted each time it is reached (what is shared counts as often as it is met; a slice's spare places count too). A statement '..UptoSaid' is the law's where the arguments, and the package variables that the reading takes, are together of bulk at most 1048576: NARROWER than '..Said'. Prove '..Said' where nothing that the law and all that it calls make is longer than what came in: it says more and counts as full. Else prove '..UptoSaid'. A law counts once. -/
mutual
def uptoBulk {H : Type} : DataW H → Nat
  | .lit (.string bytes) => bytes.length + 1
  | .lit _ => 1
  | .nil => 1
  | .ptr d => uptoBulk d + 1
  | .slice elems spare => uptoBulkAll elems + uptoBulkAll spare + 1
  | .agg parts => uptoBulkAll parts + 1
  | .iface _ d => uptoBulk d + 1
  | .map entries => uptoBulkEntries entries + 1
  | .held _ => 1
def uptoBulkAll {H : Type} : List (DataW H) → Nat
  | [] => 0
  | d :: r => uptoBulk d + uptoBulkAll r
def uptoBulkEntries {H : Type} : List (Lit × DataW H) → Nat
  | [] => 0
  | x :: r => uptoBulkEntry x + uptoBulkEntries r
def uptoBulkEntry {H : Type} : Lit × DataW H → Nat
  | (.string bytes, d) => bytes.length + uptoBulk d + 1
  | (_, d) => uptoBulk d + 1
 end
def uptoSmall : (H : Type) → List (DataW H) → Bool := fun _ ds => decide (uptoBulkAll ds ≤ 1048576)
def OpenSpec.upto (s : _root_.Go.ChangeSpec) : _root_.Go.OpenSpec := { _root_.Go.OpenSpec.ofChange s with cond := some uptoSmall }

/-- 'laws.FnExactMeasureText', WHERE WHAT IT READS IS OF BULK AT MOST 1048576: true; the input reads as it did. -/
def fnExactMeasureTextUptoRow : OpenClaim := { program := "ytpoeglfchgdmoaa", sum := "e7bc184ae3ba366144ddef5e98afddbe0ba260dbc45f80a2c309d20904eaddbc", func := "loop.example/g01050/laws.FnExactMeasureText", spec := "fnExactMeasureText", recurses := true, apart := false, narrowed := true }
def FnExactMeasureTextUptoSaid : Prop := fnExactMeasureTextUptoRow.holds Try.pinned (OpenSpec.upto fnExactMeasureTextSpec)

/-- 'laws.FnExactReadMeasure', WHERE WHAT IT READS IS OF BULK AT MOST 1048576: true; the input reads as it did. -/
def fnExactReadMeasureUptoRow : OpenClaim := { program := "ytpoeglfchgdmoaa", sum := "e7bc184ae3ba366144ddef5e98afddbe0ba260dbc45f80a2c309d20904eaddbc", func := "loop.example/g01050/laws.FnExactReadMeasure", spec := "fnExactReadMeasure", recurses := true, apart := false, narrowed := true }
def FnExactReadMeasureUptoSaid : Prop := fnExactReadMeasureUptoRow.holds Try.pinned (OpenSpec.upto fnExactReadMeasureSpec)

/-- 'laws.FnMeasures', WHERE WHAT IT READS IS OF BULK AT MOST 1048576: true; the input reads as it did. -/
def fnMeasuresUptoRow : OpenClaim := { program := "ytpoeglfchgdmoaa", sum := "e7bc184ae3ba366144ddef5e98afddbe0ba260dbc45f80a2c309d20904eaddbc", func := "loop.example/g01050/laws.FnMeasures", spec := "fnMeasures", recurses := true, apart := false, narrowed := true }
def FnMeasuresUptoSaid : Prop := fnMeasuresUptoRow.holds Try.pinned (OpenSpec.upto fnMeasuresSpec)

/-- 'laws.FnExactIntervalText', WHERE WHAT IT READS IS OF BULK AT MOST 1048576: true; the input reads as it did. -/
def fnExactIntervalTextUptoRow : OpenClaim := { program := "ytpoeglfchgdmoaa", sum := "e7bc184ae3ba366144ddef5e98afddbe0ba260dbc45f80a2c309d20904eaddbc", func := "loop.example/g01050/laws.FnExactIntervalText", spec := "fnExactIntervalText", recurses := true, apart := false, narrowed := true }
def FnExactIntervalTextUptoSaid : Prop := fnExactIntervalTextUptoRow.holds Try.pinned (OpenSpec.upto fnExactIntervalTextSpec)

/-- 'laws.FnExactReadInterval', WHERE WHAT IT READS IS OF BULK AT MOST 1048576: true; the input reads as it did. -/
def fnExactReadIntervalUptoRow : OpenClaim := { program := "ytpoeglfchgdmoaa", sum := "e7bc184ae3ba366144ddef5e98afddbe0ba260dbc45f80a2c309d20904eaddbc", func := "loop.example/g01050/laws.FnExactReadInterval", spec := "fnExactReadInterval", recurses := true, apart := false, narrowed := true }
def FnExactReadIntervalUptoSaid : Prop := fnExactReadIntervalUptoRow.holds Try.pinned (OpenSpec.upto fnExactReadIntervalSpec)

/-- 'laws.FnIntervalTexts', WHERE WHAT IT READS IS OF BULK AT MOST 1048576: true; the input reads as it did. -/
def fnIntervalTextsUptoRow : OpenClaim := { program := "ytpoeglfchgdmoaa", sum := "e7bc184ae3ba366144ddef5e98afddbe0ba260dbc45f80a2c309d20904eaddbc", func := "loop.example/g01050/laws.FnIntervalTexts", spec := "fnIntervalTexts", recurses := true, apart := false, narrowed := true }
def FnIntervalTextsUptoSaid : Prop := fnIntervalTextsUptoRow.holds Try.pinned (OpenSpec.upto fnIntervalTextsSpec)

/-- 'laws.FnExactHubText', WHERE WHAT IT READS IS OF BULK AT MOST 1048576: true; the input reads as it did. -/
def fnExactHubTextUptoRow : OpenClaim := { program := "ytpoeglfchgdmoaa", sum := "e7bc184ae3ba366144ddef5e98afddbe0ba260dbc45f80a2c309d20904eaddbc", func := "loop.example/g01050/laws.FnExactHubText", spec := "fnExactHubText", recurses := true, apart := false, narrowed := true }
def FnExactHubTextUptoSaid : Prop := fnExactHubTextUptoRow.holds Try.pinned (OpenSpec.upto fnExactHubTextSpec)

/-- 'laws.FnExactReadHub', WHERE WHAT IT READS IS OF BULK AT MOST 1048576: true; the input reads as it did. -/
def fnExactReadHubUptoRow : OpenClaim := { program := "ytpoeglfchgdmoaa", sum := "e7bc184ae3ba366144ddef5e98afddbe0ba260dbc45f80a2c309d20904eaddbc", func := "loop.example/g01050/laws.FnExactReadHub", spec := "fnExactReadHub", recurses := true, apart := false, narrowed := true }
def FnExactReadHubUptoSaid : Prop := fnExactReadHubUptoRow.holds Try.pinned (OpenSpec.upto fnExactReadHubSpec)

/-- 'laws.FnHubTexts', WHERE WHAT IT READS IS OF BULK AT MOST 1048576: true; the input reads as it did. -/
def fnHubTextsUptoRow : OpenClaim := { program := "ytpoeglfchgdmoaa", sum := "e7bc184ae3ba366144ddef5e98afddbe0ba260dbc45f80a2c309d20904eaddbc", func := "loop.example/g01050/laws.FnHubTexts", spec := "fnHubTexts", recurses := true, apart := false, narrowed := true }
def FnHubTextsUptoSaid : Prop := fnHubTextsUptoRow.holds Try.pinned (OpenSpec.upto fnHubTextsSpec)

end Rows
end Go.Proofs.Ytpoeglfchgdmoaa
