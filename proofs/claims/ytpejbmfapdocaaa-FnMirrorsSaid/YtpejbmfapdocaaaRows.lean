/-
  No cell of these rows narrows 'for every input' (looked for: loops, veiled, ifaces, maps, wideKeys, modest, calm, conditions, laid).
  DERIVED. THE GIVEN ROWS OF THIS SEAT. 12 by the template 'for every input the law returns true; each argument reads behind the call as it read before'; 0 by the template 'total and deterministic' (their statements: YtpejbmfapdocaaaTotals.lean).
  GIVEN WITH THE SEED: the statements are not yours to turn. If you find one false, say at which input.
  Laid BY PROGRAM, IN A SANDBOX (cutbox-rows.mjs): the forced cells as the released guide's own fill.sh prints them over the translation 45ed10029f4e59c4… (all of the seat's roots in one cut). By AI agents, Wed Nov 11 2026. No macro, syntax, notation, axiom, sorry.
-/
import Derived.Test.YtpejbmfapdocaaaChecked
import GoSem.Claim
import GoSem.ClaimJoined
import GoSem.ClaimMapViews
import Derived.JoinedTies
import Derived.KernelRfl
namespace Go.Proofs.Ytpejbmfapdocaaa
/- THE CELL 'sum', in the pinned program and in every row, IS THE sha256 OF THE DUMP (.gsa) THAT YtpejbmfapdocaaaProg.lean LOADS. Nothing in Lean hashes anything: it is a label: what it is worth is what the hold of that sum in a sandbox is worth. -/
noncomputable def Try.pinned : Pinned := { name := "ytpejbmfapdocaaa", sum := "45ed10029f4e59c40833e69ae1a88e8629ffdab7236f097841e8c967e228da03", checked := Try.checked }
namespace Rows
def none {H : Type} : Left H := { results := [], args := [] }

/-- 'laws.FnLists': WHATEVER THE INPUT: true; the input reads as it did. -/
def fnListsSpec : ChangeSpec := { name := "fnLists", fn := fun _ => fun
  | [d] => { results := [.lit (.bool true)], args := [d] }
  | _ => none }
def fnListsRow : OpenClaim := { program := "ytpejbmfapdocaaa", sum := "45ed10029f4e59c40833e69ae1a88e8629ffdab7236f097841e8c967e228da03", func := "loop.example/g01050/laws.FnLists", spec := "fnLists", recurses := true, apart := false }
def FnListsSaid : Prop := fnListsRow.holds Try.pinned (OpenSpec.ofChange fnListsSpec)

/-- ITS FALSE NEIGHBOUR: 'it returns false'. Refute it at one input. -/
def fnListsWrong : ChangeSpec := { name := "fnLists", fn := fun _ => fun
  | [d] => { results := [.lit (.bool false)], args := [d] }
  | _ => none }
def FnListsWrongFalsely : Prop := fnListsRow.holds Try.pinned (OpenSpec.ofChange fnListsWrong)

/-- 'laws.FnHubTexts': WHATEVER THE INPUT: true; the input reads as it did. -/
def fnHubTextsSpec : ChangeSpec := { name := "fnHubTexts", fn := fun _ => fun
  | [d] => { results := [.lit (.bool true)], args := [d] }
  | _ => none }
def fnHubTextsRow : OpenClaim := { program := "ytpejbmfapdocaaa", sum := "45ed10029f4e59c40833e69ae1a88e8629ffdab7236f097841e8c967e228da03", func := "loop.example/g01050/laws.FnHubTexts", spec := "fnHubTexts", recurses := true, apart := false }
def FnHubTextsSaid : Prop := fnHubTextsRow.holds Try.pinned (OpenSpec.ofChange fnHubTextsSpec)

/-- ITS FALSE NEIGHBOUR: 'it returns false'. Refute it at one input. -/
def fnHubTextsWrong : ChangeSpec := { name := "fnHubTexts", fn := fun _ => fun
  | [d] => { results := [.lit (.bool false)], args := [d] }
  | _ => none }
def FnHubTextsWrongFalsely : Prop := fnHubTextsRow.holds Try.pinned (OpenSpec.ofChange fnHubTextsWrong)

/-- 'laws.FnMeets': WHATEVER THE INPUT: true; the input reads as it did. -/
def fnMeetsSpec : ChangeSpec := { name := "fnMeets", fn := fun _ => fun
  | [d] => { results := [.lit (.bool true)], args := [d] }
  | _ => none }
def fnMeetsRow : OpenClaim := { program := "ytpejbmfapdocaaa", sum := "45ed10029f4e59c40833e69ae1a88e8629ffdab7236f097841e8c967e228da03", func := "loop.example/g01050/laws.FnMeets", spec := "fnMeets", apart := false }
def FnMeetsSaid : Prop := fnMeetsRow.holds Try.pinned (OpenSpec.ofChange fnMeetsSpec)

/-- ITS FALSE NEIGHBOUR: 'it returns false'. Refute it at one input. -/
def fnMeetsWrong : ChangeSpec := { name := "fnMeets", fn := fun _ => fun
  | [d] => { results := [.lit (.bool false)], args := [d] }
  | _ => none }
def FnMeetsWrongFalsely : Prop := fnMeetsRow.holds Try.pinned (OpenSpec.ofChange fnMeetsWrong)

/-- 'laws.FnSums': WHATEVER THE INPUT: true; the input reads as it did. -/
def fnSumsSpec : ChangeSpec := { name := "fnSums", fn := fun _ => fun
  | [d] => { results := [.lit (.bool true)], args := [d] }
  | _ => none }
def fnSumsRow : OpenClaim := { program := "ytpejbmfapdocaaa", sum := "45ed10029f4e59c40833e69ae1a88e8629ffdab7236f097841e8c967e228da03", func := "loop.example/g01050/laws.FnSums", spec := "fnSums", apart := false }
def FnSumsSaid : Prop := fnSumsRow.holds Try.pinned (OpenSpec.ofChange fnSumsSpec)

/-- ITS FALSE NEIGHBOUR: 'it returns false'. Refute it at one input. -/
def fnSumsWrong : ChangeSpec := { name := "fnSums", fn := fun _ => fun
  | [d] => { results := [.lit (.bool false)], args := [d] }
  | _ => none }
def FnSumsWrongFalsely : Prop := fnSumsRow.holds Try.pinned (OpenSpec.ofChange fnSumsWrong)

/-- 'laws.FnExactReadInterval': WHATEVER THE INPUT: true; the input reads as it did. -/
def fnExactReadIntervalSpec : ChangeSpec := { name := "fnExactReadInterval", fn := fun _ => fun
  | [d] => { results := [.lit (.bool true)], args := [d] }
  | _ => none }
def fnExactReadIntervalRow : OpenClaim := { program := "ytpejbmfapdocaaa", sum := "45ed10029f4e59c40833e69ae1a88e8629ffdab7236f097841e8c967e228da03", func := "loop.example/g01050/laws.FnExactReadInterval", spec := "fnExactReadInterval", recurses := true, apart := false }
def FnExactReadIntervalSaid : Prop := fnExactReadIntervalRow.holds Try.pinned (OpenSpec.ofChange fnExactReadIntervalSpec)

/-- ITS FALSE NEIGHBOUR: 'it returns false'. Refute it at one input. -/
def fnExactReadIntervalWrong : ChangeSpec := { name := "fnExactReadInterval", fn := fun _ => fun
  | [d] => { results := [.lit (.bool false)], args := [d] }
  | _ => none }
def FnExactReadIntervalWrongFalsely : Prop := fnExactReadIntervalRow.holds Try.pinned (OpenSpec.ofChange fnExactReadIntervalWrong)

/-- 'laws.FnSorted': WHATEVER THE INPUT: true; the input reads as it did. -/
def fnSortedSpec : ChangeSpec := { name := "fnSorted", fn := fun _ => fun
  | [d] => { results := [.lit (.bool true)], args := [d] }
  | _ => none }
def fnSortedRow : OpenClaim := { program := "ytpejbmfapdocaaa", sum := "45ed10029f4e59c40833e69ae1a88e8629ffdab7236f097841e8c967e228da03", func := "loop.example/g01050/laws.FnSorted", spec := "fnSorted", apart := false }
def FnSortedSaid : Prop := fnSortedRow.holds Try.pinned (OpenSpec.ofChange fnSortedSpec)

/-- ITS FALSE NEIGHBOUR: 'it returns false'. Refute it at one input. -/
def fnSortedWrong : ChangeSpec := { name := "fnSorted", fn := fun _ => fun
  | [d] => { results := [.lit (.bool false)], args := [d] }
  | _ => none }
def FnSortedWrongFalsely : Prop := fnSortedRow.holds Try.pinned (OpenSpec.ofChange fnSortedWrong)

/-- 'laws.FnMirrors': WHATEVER THE INPUT: true; the input reads as it did. -/
def fnMirrorsSpec : ChangeSpec := { name := "fnMirrors", fn := fun _ => fun
  | [d] => { results := [.lit (.bool true)], args := [d] }
  | _ => none }
def fnMirrorsRow : OpenClaim := { program := "ytpejbmfapdocaaa", sum := "45ed10029f4e59c40833e69ae1a88e8629ffdab7236f097841e8c967e228da03", func := "loop.example/g01050/laws.FnMirrors", spec := "fnMirrors", apart := false }
def FnMirrorsSaid : Prop := fnMirrorsRow.holds Try.pinned (OpenSpec.ofChange fnMirrorsSpec)

/-- ITS FALSE NEIGHBOUR: 'it returns false'. Refute it at one input. -/
def fnMirrorsWrong : ChangeSpec := { name := "fnMirrors", fn := fun _ => fun
  | [d] => { results := [.lit (.bool false)], args := [d] }
  | _ => none }
def FnMirrorsWrongFalsely : Prop := fnMirrorsRow.holds Try.pinned (OpenSpec.ofChange fnMirrorsWrong)

/-- 'laws.FnRoots': WHATEVER THE INPUT: true; the input reads as it did. -/
def fnRootsSpec : ChangeSpec := { name := "fnRoots", fn := fun _ => fun
  | [d] => { results := [.lit (.bool true)], args := [d] }
  | _ => none }
def fnRootsRow : OpenClaim := { program := "ytpejbmfapdocaaa", sum := "45ed10029f4e59c40833e69ae1a88e8629ffdab7236f097841e8c967e228da03", func := "loop.example/g01050/laws.FnRoots", spec := "fnRoots", apart := false }
def FnRootsSaid : Prop := fnRootsRow.holds Try.pinned (OpenSpec.ofChange fnRootsSpec)

/-- ITS FALSE NEIGHBOUR: 'it returns false'. Refute it at one input. -/
def fnRootsWrong : ChangeSpec := { name := "fnRoots", fn := fun _ => fun
  | [d] => { results := [.lit (.bool false)], args := [d] }
  | _ => none }
def FnRootsWrongFalsely : Prop := fnRootsRow.holds Try.pinned (OpenSpec.ofChange fnRootsWrong)

/-- 'laws.FnMeasures': WHATEVER THE INPUT: true; the input reads as it did. -/
def fnMeasuresSpec : ChangeSpec := { name := "fnMeasures", fn := fun _ => fun
  | [d] => { results := [.lit (.bool true)], args := [d] }
  | _ => none }
def fnMeasuresRow : OpenClaim := { program := "ytpejbmfapdocaaa", sum := "45ed10029f4e59c40833e69ae1a88e8629ffdab7236f097841e8c967e228da03", func := "loop.example/g01050/laws.FnMeasures", spec := "fnMeasures", recurses := true, apart := false }
def FnMeasuresSaid : Prop := fnMeasuresRow.holds Try.pinned (OpenSpec.ofChange fnMeasuresSpec)

/-- ITS FALSE NEIGHBOUR: 'it returns false'. Refute it at one input. -/
def fnMeasuresWrong : ChangeSpec := { name := "fnMeasures", fn := fun _ => fun
  | [d] => { results := [.lit (.bool false)], args := [d] }
  | _ => none }
def FnMeasuresWrongFalsely : Prop := fnMeasuresRow.holds Try.pinned (OpenSpec.ofChange fnMeasuresWrong)

/-- 'laws.FnWords': WHATEVER THE INPUT: true; the input reads as it did. -/
def fnWordsSpec : ChangeSpec := { name := "fnWords", fn := fun _ => fun
  | [d] => { results := [.lit (.bool true)], args := [d] }
  | _ => none }
def fnWordsRow : OpenClaim := { program := "ytpejbmfapdocaaa", sum := "45ed10029f4e59c40833e69ae1a88e8629ffdab7236f097841e8c967e228da03", func := "loop.example/g01050/laws.FnWords", spec := "fnWords", apart := false }
def FnWordsSaid : Prop := fnWordsRow.holds Try.pinned (OpenSpec.ofChange fnWordsSpec)

/-- ITS FALSE NEIGHBOUR: 'it returns false'. Refute it at one input. -/
def fnWordsWrong : ChangeSpec := { name := "fnWords", fn := fun _ => fun
  | [d] => { results := [.lit (.bool false)], args := [d] }
  | _ => none }
def FnWordsWrongFalsely : Prop := fnWordsRow.holds Try.pinned (OpenSpec.ofChange fnWordsWrong)

/-- 'laws.FnExactReadHub': WHATEVER THE INPUT: true; the input reads as it did. -/
def fnExactReadHubSpec : ChangeSpec := { name := "fnExactReadHub", fn := fun _ => fun
  | [d] => { results := [.lit (.bool true)], args := [d] }
  | _ => none }
def fnExactReadHubRow : OpenClaim := { program := "ytpejbmfapdocaaa", sum := "45ed10029f4e59c40833e69ae1a88e8629ffdab7236f097841e8c967e228da03", func := "loop.example/g01050/laws.FnExactReadHub", spec := "fnExactReadHub", recurses := true, apart := false }
def FnExactReadHubSaid : Prop := fnExactReadHubRow.holds Try.pinned (OpenSpec.ofChange fnExactReadHubSpec)

/-- ITS FALSE NEIGHBOUR: 'it returns false'. Refute it at one input. -/
def fnExactReadHubWrong : ChangeSpec := { name := "fnExactReadHub", fn := fun _ => fun
  | [d] => { results := [.lit (.bool false)], args := [d] }
  | _ => none }
def FnExactReadHubWrongFalsely : Prop := fnExactReadHubRow.holds Try.pinned (OpenSpec.ofChange fnExactReadHubWrong)

/-- 'laws.FnIntervalTexts': WHATEVER THE INPUT: true; the input reads as it did. -/
def fnIntervalTextsSpec : ChangeSpec := { name := "fnIntervalTexts", fn := fun _ => fun
  | [d] => { results := [.lit (.bool true)], args := [d] }
  | _ => none }
def fnIntervalTextsRow : OpenClaim := { program := "ytpejbmfapdocaaa", sum := "45ed10029f4e59c40833e69ae1a88e8629ffdab7236f097841e8c967e228da03", func := "loop.example/g01050/laws.FnIntervalTexts", spec := "fnIntervalTexts", recurses := true, apart := false }
def FnIntervalTextsSaid : Prop := fnIntervalTextsRow.holds Try.pinned (OpenSpec.ofChange fnIntervalTextsSpec)

/-- ITS FALSE NEIGHBOUR: 'it returns false'. Refute it at one input. -/
def fnIntervalTextsWrong : ChangeSpec := { name := "fnIntervalTexts", fn := fun _ => fun
  | [d] => { results := [.lit (.bool false)], args := [d] }
  | _ => none }
def FnIntervalTextsWrongFalsely : Prop := fnIntervalTextsRow.holds Try.pinned (OpenSpec.ofChange fnIntervalTextsWrong)

/- THE SECOND FORM. 'bulk': how many values and letters a reading holds, each counted each time it is reached (what is shared counts as often as it is met; a slice's spare places count too). A statement '..UptoSaid' is the law's where the arguments, and the package variables that the reading takes, are together of bulk at most 1048576: NARROWER than '..Said'. Prove '..Said' where nothing that the law and all that it calls make is longer than what came in: it says more and counts as full. Else prove '..UptoSaid'. A law counts once. -/
mutual
def uptoBulk {H : Type} : DataW H → Nat
  | .lit (.string bytes) => bytes.length + 1
  | .lit _ => 1
  | .nil => 1
  | .ptr d => uptoBulk d + 1
  | .slice elems spare => uptoBulkAll elems + uptoBulkAll spare + 1
  | .agg parts => uptoBulkAll parts + 1
  | .iface _ d => uptoBulk d + 1
  | .map entries => uptoBulkEntries entries + 1
  | .held _ => 1
def uptoBulkAll {H : Type} : List (DataW H) → Nat
  | [] => 0
  | d :: r => uptoBulk d + uptoBulkAll r
def uptoBulkEntries {H : Type} : List (Lit × DataW H) → Nat
  | [] => 0
  | x :: r => uptoBulkEntry x + uptoBulkEntries r
def uptoBulkEntry {H : Type} : Lit × DataW H → Nat
  | (.string bytes, d) => bytes.length + uptoBulk d + 1
  | (_, d) => uptoBulk d + 1
 end
def uptoSmall : (H : Type) → List (DataW H) → Bool := fun _ ds => decide (uptoBulkAll ds ≤ 1048576)
def OpenSpec.upto (s : _root_.Go.ChangeSpec) : _root_.Go.OpenSpec := { _root_.Go.OpenSpec.ofChange s with cond := some uptoSmall }

/-- 'laws.FnLists', WHERE WHAT IT READS IS OF BULK AT MOST 1048576: true; the input reads as it did. -/
def fnListsUptoRow : OpenClaim := { program := "ytpejbmfapdocaaa", sum := "45ed10029f4e59c40833e69ae1a88e8629ffdab7236f097841e8c967e228da03", func := "loop.example/g01050/laws.FnLists", spec := "fnLists", recurses := true, apart := false, narrowed := true }
def FnListsUptoSaid : Prop := fnListsUptoRow.holds Try.pinned (OpenSpec.upto fnListsSpec)

/-- 'laws.FnHubTexts', WHERE WHAT IT READS IS OF BULK AT MOST 1048576: true; the input reads as it did. -/
def fnHubTextsUptoRow : OpenClaim := { program := "ytpejbmfapdocaaa", sum := "45ed10029f4e59c40833e69ae1a88e8629ffdab7236f097841e8c967e228da03", func := "loop.example/g01050/laws.FnHubTexts", spec := "fnHubTexts", recurses := true, apart := false, narrowed := true }
def FnHubTextsUptoSaid : Prop := fnHubTextsUptoRow.holds Try.pinned (OpenSpec.upto fnHubTextsSpec)

/-- 'laws.FnMeets', WHERE WHAT IT READS IS OF BULK AT MOST 1048576: true; the input reads as it did. -/
def fnMeetsUptoRow : OpenClaim := { program := "ytpejbmfapdocaaa", sum := "45ed10029f4e59c40833e69ae1a88e8629ffdab7236f097841e8c967e228da03", func := "loop.example/g01050/laws.FnMeets", spec := "fnMeets", apart := false, narrowed := true }
def FnMeetsUptoSaid : Prop := fnMeetsUptoRow.holds Try.pinned (OpenSpec.upto fnMeetsSpec)

/-- 'laws.FnSums', WHERE WHAT IT READS IS OF BULK AT MOST 1048576: true; the input reads as it did. -/
def fnSumsUptoRow : OpenClaim := { program := "ytpejbmfapdocaaa", sum := "45ed10029f4e59c40833e69ae1a88e8629ffdab7236f097841e8c967e228da03", func := "loop.example/g01050/laws.FnSums", spec := "fnSums", apart := false, narrowed := true }
def FnSumsUptoSaid : Prop := fnSumsUptoRow.holds Try.pinned (OpenSpec.upto fnSumsSpec)

/-- 'laws.FnExactReadInterval', WHERE WHAT IT READS IS OF BULK AT MOST 1048576: true; the input reads as it did. -/
def fnExactReadIntervalUptoRow : OpenClaim := { program := "ytpejbmfapdocaaa", sum := "45ed10029f4e59c40833e69ae1a88e8629ffdab7236f097841e8c967e228da03", func := "loop.example/g01050/laws.FnExactReadInterval", spec := "fnExactReadInterval", recurses := true, apart := false, narrowed := true }
def FnExactReadIntervalUptoSaid : Prop := fnExactReadIntervalUptoRow.holds Try.pinned (OpenSpec.upto fnExactReadIntervalSpec)

/-- 'laws.FnSorted', WHERE WHAT IT READS IS OF BULK AT MOST 1048576: true; the input reads as it did. -/
def fnSortedUptoRow : OpenClaim := { program := "ytpejbmfapdocaaa", sum := "45ed10029f4e59c40833e69ae1a88e8629ffdab7236f097841e8c967e228da03", func := "loop.example/g01050/laws.FnSorted", spec := "fnSorted", apart := false, narrowed := true }
def FnSortedUptoSaid : Prop := fnSortedUptoRow.holds Try.pinned (OpenSpec.upto fnSortedSpec)

/-- 'laws.FnMirrors', WHERE WHAT IT READS IS OF BULK AT MOST 1048576: true; the input reads as it did. -/
def fnMirrorsUptoRow : OpenClaim := { program := "ytpejbmfapdocaaa", sum := "45ed10029f4e59c40833e69ae1a88e8629ffdab7236f097841e8c967e228da03", func := "loop.example/g01050/laws.FnMirrors", spec := "fnMirrors", apart := false, narrowed := true }
def FnMirrorsUptoSaid : Prop := fnMirrorsUptoRow.holds Try.pinned (OpenSpec.upto fnMirrorsSpec)

/-- 'laws.FnRoots', WHERE WHAT IT READS IS OF BULK AT MOST 1048576: true; the input reads as it did. -/
def fnRootsUptoRow : OpenClaim := { program := "ytpejbmfapdocaaa", sum := "45ed10029f4e59c40833e69ae1a88e8629ffdab7236f097841e8c967e228da03", func := "loop.example/g01050/laws.FnRoots", spec := "fnRoots", apart := false, narrowed := true }
def FnRootsUptoSaid : Prop := fnRootsUptoRow.holds Try.pinned (OpenSpec.upto fnRootsSpec)

/-- 'laws.FnMeasures', WHERE WHAT IT READS IS OF BULK AT MOST 1048576: true; the input reads as it did. -/
def fnMeasuresUptoRow : OpenClaim := { program := "ytpejbmfapdocaaa", sum := "45ed10029f4e59c40833e69ae1a88e8629ffdab7236f097841e8c967e228da03", func := "loop.example/g01050/laws.FnMeasures", spec := "fnMeasures", recurses := true, apart := false, narrowed := true }
def FnMeasuresUptoSaid : Prop := fnMeasuresUptoRow.holds Try.pinned (OpenSpec.upto fnMeasuresSpec)

/-- 'laws.FnWords', WHERE WHAT IT READS IS OF BULK AT MOST 1048576: true; the input reads as it did. -/
def fnWordsUptoRow : OpenClaim := { program := "ytpejbmfapdocaaa", sum := "45ed10029f4e59c40833e69ae1a88e8629ffdab7236f097841e8c967e228da03", func := "loop.example/g01050/laws.FnWords", spec := "fnWords", apart := false, narrowed := true }
def FnWordsUptoSaid : Prop := fnWordsUptoRow.holds Try.pinned (OpenSpec.upto fnWordsSpec)

/-- 'laws.FnExactReadHub', WHERE WHAT IT READS IS OF BULK AT MOST 1048576: true; the input reads as it did. -/
def fnExactReadHubUptoRow : OpenClaim := { program := "ytpejbmfapdocaaa", sum := "45ed10029f4e59c40833e69ae1a88e8629ffdab7236f097841e8c967e228da03", func := "loop.example/g01050/laws.FnExactReadHub", spec := "fnExactReadHub", recurses := true, apart := false, narrowed := true }
def FnExactReadHubUptoSaid : Prop := fnExactReadHubUptoRow.holds Try.pinned (OpenSpec.upto fnExactReadHubSpec)

/-- 'laws.FnIntervalTexts', WHERE WHAT IT READS IS OF BULK AT MOST 1048576: true; the input reads as it did. -/
def fnIntervalTextsUptoRow : OpenClaim := { program := "ytpejbmfapdocaaa", sum := "45ed10029f4e59c40833e69ae1a88e8629ffdab7236f097841e8c967e228da03", func := "loop.example/g01050/laws.FnIntervalTexts", spec := "fnIntervalTexts", recurses := true, apart := false, narrowed := true }
def FnIntervalTextsUptoSaid : Prop := fnIntervalTextsUptoRow.holds Try.pinned (OpenSpec.upto fnIntervalTextsSpec)

end Rows
end Go.Proofs.Ytpejbmfapdocaaa
