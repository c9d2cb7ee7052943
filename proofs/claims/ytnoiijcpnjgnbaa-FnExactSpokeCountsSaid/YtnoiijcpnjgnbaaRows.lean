/-
  No cell of these rows narrows 'for every input' (looked for: loops, veiled, ifaces, maps, wideKeys, modest, calm, conditions, laid).
  DERIVED. THE GIVEN ROWS OF THIS SEAT. 8 by the template 'for every input the law returns true; each argument reads behind the call as it read before'; 0 by the template 'total and deterministic' (their statements: YtnoiijcpnjgnbaaTotals.lean).
  GIVEN WITH THE SEED: the statements are not yours to turn. If you find one false, say at which input.
  Laid BY PROGRAM, IN A SANDBOX (cutbox-rows.mjs): the forced cells as the released guide's own fill.sh prints them over the translation 4091467f9fe86260… (all of the seat's roots in one cut). By AI agents, Wed Nov 11 2026. No macro, syntax, notation, axiom, sorry.
-/
import Derived.Test.YtnoiijcpnjgnbaaChecked
import GoSem.Claim
import GoSem.ClaimJoined
import GoSem.ClaimMapViews
import Derived.JoinedTies
import Derived.KernelRfl
namespace Go.Proofs.Ytnoiijcpnjgnbaa
/- THE CELL 'sum', in the pinned program and in every row, IS THE sha256 OF THE DUMP (.gsa) THAT YtnoiijcpnjgnbaaProg.lean LOADS. Nothing in Lean hashes anything: it is a label: what it is worth is what the hold of that sum in a sandbox is worth. -/
noncomputable def Try.pinned : Pinned := { name := "ytnoiijcpnjgnbaa", sum := "4091467f9fe86260c8a0b8e48ec0a6e00f5e9a4b24100af5de3a313189e0c21e", checked := Try.checked }
namespace Rows
def none {H : Type} : Left H := { results := [], args := [] }

/-- 'laws.FnExactChooseSpoke': WHATEVER THE INPUT: true; the input reads as it did. -/
def fnExactChooseSpokeSpec : ChangeSpec := { name := "fnExactChooseSpoke", fn := fun _ => fun
  | [d1, d2] => { results := [.lit (.bool true)], args := [d1, d2] }
  | _ => none }
def fnExactChooseSpokeRow : OpenClaim := { program := "ytnoiijcpnjgnbaa", sum := "4091467f9fe86260c8a0b8e48ec0a6e00f5e9a4b24100af5de3a313189e0c21e", func := "loop.example/g01050/laws.FnExactChooseSpoke", spec := "fnExactChooseSpoke", apart := false }
def FnExactChooseSpokeSaid : Prop := fnExactChooseSpokeRow.holds Try.pinned (OpenSpec.ofChange fnExactChooseSpokeSpec)

/-- ITS FALSE NEIGHBOUR: 'it returns false'. Refute it at one input. -/
def fnExactChooseSpokeWrong : ChangeSpec := { name := "fnExactChooseSpoke", fn := fun _ => fun
  | [d1, d2] => { results := [.lit (.bool false)], args := [d1, d2] }
  | _ => none }
def FnExactChooseSpokeWrongFalsely : Prop := fnExactChooseSpokeRow.holds Try.pinned (OpenSpec.ofChange fnExactChooseSpokeWrong)

/-- 'laws.FnExactSpokesFor': WHATEVER THE INPUT: true; the input reads as it did. -/
def fnExactSpokesForSpec : ChangeSpec := { name := "fnExactSpokesFor", fn := fun _ => fun
  | [d1, d2] => { results := [.lit (.bool true)], args := [d1, d2] }
  | _ => none }
def fnExactSpokesForRow : OpenClaim := { program := "ytnoiijcpnjgnbaa", sum := "4091467f9fe86260c8a0b8e48ec0a6e00f5e9a4b24100af5de3a313189e0c21e", func := "loop.example/g01050/laws.FnExactSpokesFor", spec := "fnExactSpokesFor", apart := false }
def FnExactSpokesForSaid : Prop := fnExactSpokesForRow.holds Try.pinned (OpenSpec.ofChange fnExactSpokesForSpec)

/-- ITS FALSE NEIGHBOUR: 'it returns false'. Refute it at one input. -/
def fnExactSpokesForWrong : ChangeSpec := { name := "fnExactSpokesFor", fn := fun _ => fun
  | [d1, d2] => { results := [.lit (.bool false)], args := [d1, d2] }
  | _ => none }
def FnExactSpokesForWrongFalsely : Prop := fnExactSpokesForRow.holds Try.pinned (OpenSpec.ofChange fnExactSpokesForWrong)

/-- 'laws.FnExactSquareOfSpoke': WHATEVER THE INPUT: true; the input reads as it did. -/
def fnExactSquareOfSpokeSpec : ChangeSpec := { name := "fnExactSquareOfSpoke", fn := fun _ => fun
  | [d1, d2] => { results := [.lit (.bool true)], args := [d1, d2] }
  | _ => none }
def fnExactSquareOfSpokeRow : OpenClaim := { program := "ytnoiijcpnjgnbaa", sum := "4091467f9fe86260c8a0b8e48ec0a6e00f5e9a4b24100af5de3a313189e0c21e", func := "loop.example/g01050/laws.FnExactSquareOfSpoke", spec := "fnExactSquareOfSpoke", apart := false }
def FnExactSquareOfSpokeSaid : Prop := fnExactSquareOfSpokeRow.holds Try.pinned (OpenSpec.ofChange fnExactSquareOfSpokeSpec)

/-- ITS FALSE NEIGHBOUR: 'it returns false'. Refute it at one input. -/
def fnExactSquareOfSpokeWrong : ChangeSpec := { name := "fnExactSquareOfSpoke", fn := fun _ => fun
  | [d1, d2] => { results := [.lit (.bool false)], args := [d1, d2] }
  | _ => none }
def FnExactSquareOfSpokeWrongFalsely : Prop := fnExactSquareOfSpokeRow.holds Try.pinned (OpenSpec.ofChange fnExactSquareOfSpokeWrong)

/-- 'laws.FnExactSpokeLength': WHATEVER THE INPUT: true; the input reads as it did. -/
def fnExactSpokeLengthSpec : ChangeSpec := { name := "fnExactSpokeLength", fn := fun _ => fun
  | [d1, d2] => { results := [.lit (.bool true)], args := [d1, d2] }
  | _ => none }
def fnExactSpokeLengthRow : OpenClaim := { program := "ytnoiijcpnjgnbaa", sum := "4091467f9fe86260c8a0b8e48ec0a6e00f5e9a4b24100af5de3a313189e0c21e", func := "loop.example/g01050/laws.FnExactSpokeLength", spec := "fnExactSpokeLength", apart := false }
def FnExactSpokeLengthSaid : Prop := fnExactSpokeLengthRow.holds Try.pinned (OpenSpec.ofChange fnExactSpokeLengthSpec)

/-- ITS FALSE NEIGHBOUR: 'it returns false'. Refute it at one input. -/
def fnExactSpokeLengthWrong : ChangeSpec := { name := "fnExactSpokeLength", fn := fun _ => fun
  | [d1, d2] => { results := [.lit (.bool false)], args := [d1, d2] }
  | _ => none }
def FnExactSpokeLengthWrongFalsely : Prop := fnExactSpokeLengthRow.holds Try.pinned (OpenSpec.ofChange fnExactSpokeLengthWrong)

/-- 'laws.FnExactTensionShare': WHATEVER THE INPUT: true; the input reads as it did. -/
def fnExactTensionShareSpec : ChangeSpec := { name := "fnExactTensionShare", fn := fun _ => fun
  | [d] => { results := [.lit (.bool true)], args := [d] }
  | _ => none }
def fnExactTensionShareRow : OpenClaim := { program := "ytnoiijcpnjgnbaa", sum := "4091467f9fe86260c8a0b8e48ec0a6e00f5e9a4b24100af5de3a313189e0c21e", func := "loop.example/g01050/laws.FnExactTensionShare", spec := "fnExactTensionShare", apart := false }
def FnExactTensionShareSaid : Prop := fnExactTensionShareRow.holds Try.pinned (OpenSpec.ofChange fnExactTensionShareSpec)

/-- ITS FALSE NEIGHBOUR: 'it returns false'. Refute it at one input. -/
def fnExactTensionShareWrong : ChangeSpec := { name := "fnExactTensionShare", fn := fun _ => fun
  | [d] => { results := [.lit (.bool false)], args := [d] }
  | _ => none }
def FnExactTensionShareWrongFalsely : Prop := fnExactTensionShareRow.holds Try.pinned (OpenSpec.ofChange fnExactTensionShareWrong)

/-- 'laws.FnExactCrossesFor': WHATEVER THE INPUT: true; the input reads as it did. -/
def fnExactCrossesForSpec : ChangeSpec := { name := "fnExactCrossesFor", fn := fun _ => fun
  | [d1, d2, d3] => { results := [.lit (.bool true)], args := [d1, d2, d3] }
  | _ => none }
def fnExactCrossesForRow : OpenClaim := { program := "ytnoiijcpnjgnbaa", sum := "4091467f9fe86260c8a0b8e48ec0a6e00f5e9a4b24100af5de3a313189e0c21e", func := "loop.example/g01050/laws.FnExactCrossesFor", spec := "fnExactCrossesFor", apart := false }
def FnExactCrossesForSaid : Prop := fnExactCrossesForRow.holds Try.pinned (OpenSpec.ofChange fnExactCrossesForSpec)

/-- ITS FALSE NEIGHBOUR: 'it returns false'. Refute it at one input. -/
def fnExactCrossesForWrong : ChangeSpec := { name := "fnExactCrossesFor", fn := fun _ => fun
  | [d1, d2, d3] => { results := [.lit (.bool false)], args := [d1, d2, d3] }
  | _ => none }
def FnExactCrossesForWrongFalsely : Prop := fnExactCrossesForRow.holds Try.pinned (OpenSpec.ofChange fnExactCrossesForWrong)

/-- 'laws.FnExactLengthRange': WHATEVER THE INPUT: true; the input reads as it did. -/
def fnExactLengthRangeSpec : ChangeSpec := { name := "fnExactLengthRange", fn := fun _ => fun
  | [d1, d2, d3] => { results := [.lit (.bool true)], args := [d1, d2, d3] }
  | _ => none }
def fnExactLengthRangeRow : OpenClaim := { program := "ytnoiijcpnjgnbaa", sum := "4091467f9fe86260c8a0b8e48ec0a6e00f5e9a4b24100af5de3a313189e0c21e", func := "loop.example/g01050/laws.FnExactLengthRange", spec := "fnExactLengthRange", apart := false }
def FnExactLengthRangeSaid : Prop := fnExactLengthRangeRow.holds Try.pinned (OpenSpec.ofChange fnExactLengthRangeSpec)

/-- ITS FALSE NEIGHBOUR: 'it returns false'. Refute it at one input. -/
def fnExactLengthRangeWrong : ChangeSpec := { name := "fnExactLengthRange", fn := fun _ => fun
  | [d1, d2, d3] => { results := [.lit (.bool false)], args := [d1, d2, d3] }
  | _ => none }
def FnExactLengthRangeWrongFalsely : Prop := fnExactLengthRangeRow.holds Try.pinned (OpenSpec.ofChange fnExactLengthRangeWrong)

/-- 'laws.FnExactSpokeCounts': WHATEVER THE INPUT: true; the input reads as it did. -/
def fnExactSpokeCountsSpec : ChangeSpec := { name := "fnExactSpokeCounts", fn := fun _ => fun
  | [d] => { results := [.lit (.bool true)], args := [d] }
  | _ => none }
def fnExactSpokeCountsRow : OpenClaim := { program := "ytnoiijcpnjgnbaa", sum := "4091467f9fe86260c8a0b8e48ec0a6e00f5e9a4b24100af5de3a313189e0c21e", func := "loop.example/g01050/laws.FnExactSpokeCounts", spec := "fnExactSpokeCounts", apart := false }
def FnExactSpokeCountsSaid : Prop := fnExactSpokeCountsRow.holds Try.pinned (OpenSpec.ofChange fnExactSpokeCountsSpec)

/-- ITS FALSE NEIGHBOUR: 'it returns false'. Refute it at one input. -/
def fnExactSpokeCountsWrong : ChangeSpec := { name := "fnExactSpokeCounts", fn := fun _ => fun
  | [d] => { results := [.lit (.bool false)], args := [d] }
  | _ => none }
def FnExactSpokeCountsWrongFalsely : Prop := fnExactSpokeCountsRow.holds Try.pinned (OpenSpec.ofChange fnExactSpokeCountsWrong)

/- THE SECOND FORM. 'bulk': how many values and letters a reading holds, each counted each time it is reached (what is shared counts as often as it is met; a slice's spare places count too). A statement '..UptoSaid' is the law's where the arguments, and the package variables that the reading takes, are together of bulk at most 1048576: NARROWER than '..Said'. Prove '..Said' where nothing that the law and all that it calls make is longer than what came in: it says more and counts as full. Else prove '..UptoSaid'. A law counts once. -/
mutual
def uptoBulk {H : Type} : DataW H → Nat
  | .lit (.string bytes) => bytes.length + 1
  | .lit _ => 1
  | .nil => 1
  | .ptr d => uptoBulk d + 1
  | .slice elems spare => uptoBulkAll elems + uptoBulkAll spare + 1
  | .agg parts => uptoBulkAll parts + 1
  | .iface _ d => uptoBulk d + 1
  | .map entries => uptoBulkEntries entries + 1
  | .held _ => 1
def uptoBulkAll {H : Type} : List (DataW H) → Nat
  | [] => 0
  | d :: r => uptoBulk d + uptoBulkAll r
def uptoBulkEntries {H : Type} : List (Lit × DataW H) → Nat
  | [] => 0
  | x :: r => uptoBulkEntry x + uptoBulkEntries r
def uptoBulkEntry {H : Type} : Lit × DataW H → Nat
  | (.string bytes, d) => bytes.length + uptoBulk d + 1
  | (_, d) => uptoBulk d + 1
 end
def uptoSmall : (H : Type) → List (DataW H) → Bool := fun _ ds => decide (uptoBulkAll ds ≤ 1048576)
def OpenSpec.upto (s : _root_.Go.ChangeSpec) : _root_.Go.OpenSpec := { _root_.Go.OpenSpec.ofChange s with cond := some uptoSmall }

/-- 'laws.FnExactChooseSpoke', WHERE WHAT IT READS IS OF BULK AT MOST 1048576: true; the input reads as it did. -/
def fnExactChooseSpokeUptoRow : OpenClaim := { program := "ytnoiijcpnjgnbaa", sum := "4091467f9fe86260c8a0b8e48ec0a6e00f5e9a4b24100af5de3a313189e0c21e", func := "loop.example/g01050/laws.FnExactChooseSpoke", spec := "fnExactChooseSpoke", apart := false, narrowed := true }
def FnExactChooseSpokeUptoSaid : Prop := fnExactChooseSpokeUptoRow.holds Try.pinned (OpenSpec.upto fnExactChooseSpokeSpec)

/-- 'laws.FnExactSpokesFor', WHERE WHAT IT READS IS OF BULK AT MOST 1048576: true; the input reads as it did. -/
def fnExactSpokesForUptoRow : OpenClaim := { program := "ytnoiijcpnjgnbaa", sum := "4091467f9fe86260c8a0b8e48ec0a6e00f5e9a4b24100af5de3a313189e0c21e", func := "loop.example/g01050/laws.FnExactSpokesFor", spec := "fnExactSpokesFor", apart := false, narrowed := true }
def FnExactSpokesForUptoSaid : Prop := fnExactSpokesForUptoRow.holds Try.pinned (OpenSpec.upto fnExactSpokesForSpec)

/-- 'laws.FnExactSquareOfSpoke', WHERE WHAT IT READS IS OF BULK AT MOST 1048576: true; the input reads as it did. -/
def fnExactSquareOfSpokeUptoRow : OpenClaim := { program := "ytnoiijcpnjgnbaa", sum := "4091467f9fe86260c8a0b8e48ec0a6e00f5e9a4b24100af5de3a313189e0c21e", func := "loop.example/g01050/laws.FnExactSquareOfSpoke", spec := "fnExactSquareOfSpoke", apart := false, narrowed := true }
def FnExactSquareOfSpokeUptoSaid : Prop := fnExactSquareOfSpokeUptoRow.holds Try.pinned (OpenSpec.upto fnExactSquareOfSpokeSpec)

/-- 'laws.FnExactSpokeLength', WHERE WHAT IT READS IS OF BULK AT MOST 1048576: true; the input reads as it did. -/
def fnExactSpokeLengthUptoRow : OpenClaim := { program := "ytnoiijcpnjgnbaa", sum := "4091467f9fe86260c8a0b8e48ec0a6e00f5e9a4b24100af5de3a313189e0c21e", func := "loop.example/g01050/laws.FnExactSpokeLength", spec := "fnExactSpokeLength", apart := false, narrowed := true }
def FnExactSpokeLengthUptoSaid : Prop := fnExactSpokeLengthUptoRow.holds Try.pinned (OpenSpec.upto fnExactSpokeLengthSpec)

/-- 'laws.FnExactTensionShare', WHERE WHAT IT READS IS OF BULK AT MOST 1048576: true; the input reads as it did. -/
def fnExactTensionShareUptoRow : OpenClaim := { program := "ytnoiijcpnjgnbaa", sum := "4091467f9fe86260c8a0b8e48ec0a6e00f5e9a4b24100af5de3a313189e0c21e", func := "loop.example/g01050/laws.FnExactTensionShare", spec := "fnExactTensionShare", apart := false, narrowed := true }
def FnExactTensionShareUptoSaid : Prop := fnExactTensionShareUptoRow.holds Try.pinned (OpenSpec.upto fnExactTensionShareSpec)

/-- 'laws.FnExactCrossesFor', WHERE WHAT IT READS IS OF BULK AT MOST 1048576: true; the input reads as it did. -/
def fnExactCrossesForUptoRow : OpenClaim := { program := "ytnoiijcpnjgnbaa", sum := "4091467f9fe86260c8a0b8e48ec0a6e00f5e9a4b24100af5de3a313189e0c21e", func := "loop.example/g01050/laws.FnExactCrossesFor", spec := "fnExactCrossesFor", apart := false, narrowed := true }
def FnExactCrossesForUptoSaid : Prop := fnExactCrossesForUptoRow.holds Try.pinned (OpenSpec.upto fnExactCrossesForSpec)

/-- 'laws.FnExactLengthRange', WHERE WHAT IT READS IS OF BULK AT MOST 1048576: true; the input reads as it did. -/
def fnExactLengthRangeUptoRow : OpenClaim := { program := "ytnoiijcpnjgnbaa", sum := "4091467f9fe86260c8a0b8e48ec0a6e00f5e9a4b24100af5de3a313189e0c21e", func := "loop.example/g01050/laws.FnExactLengthRange", spec := "fnExactLengthRange", apart := false, narrowed := true }
def FnExactLengthRangeUptoSaid : Prop := fnExactLengthRangeUptoRow.holds Try.pinned (OpenSpec.upto fnExactLengthRangeSpec)

/-- 'laws.FnExactSpokeCounts', WHERE WHAT IT READS IS OF BULK AT MOST 1048576: true; the input reads as it did. -/
def fnExactSpokeCountsUptoRow : OpenClaim := { program := "ytnoiijcpnjgnbaa", sum := "4091467f9fe86260c8a0b8e48ec0a6e00f5e9a4b24100af5de3a313189e0c21e", func := "loop.example/g01050/laws.FnExactSpokeCounts", spec := "fnExactSpokeCounts", apart := false, narrowed := true }
def FnExactSpokeCountsUptoSaid : Prop := fnExactSpokeCountsUptoRow.holds Try.pinned (OpenSpec.upto fnExactSpokeCountsSpec)

end Rows
end Go.Proofs.Ytnoiijcpnjgnbaa
