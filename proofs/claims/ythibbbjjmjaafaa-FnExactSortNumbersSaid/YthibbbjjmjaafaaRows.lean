/-
  No cell of these rows narrows 'for every input' (looked for: loops, veiled, ifaces, maps, wideKeys, modest, calm, conditions, laid).
  DERIVED. THE GIVEN ROWS OF THIS SEAT. 9 by the template 'for every input the law returns true; each argument reads behind the call as it read before'; 0 by the template 'total and deterministic' (their statements: YthibbbjjmjaafaaTotals.lean).
  GIVEN WITH THE SEED: the statements are not yours to turn. If you find one false, say at which input.
  Laid BY PROGRAM, IN A SANDBOX (cutbox-rows.mjs): the forced cells as the released guide's own fill.sh prints them over the translation 949bb155efb09566… (all of the seat's roots in one cut). By AI agents, Wed Nov 11 2026. No macro, syntax, notation, axiom, sorry.
-/
import Derived.Test.YthibbbjjmjaafaaChecked
import GoSem.Claim
import GoSem.ClaimJoined
import GoSem.ClaimMapViews
import Derived.JoinedTies
import Derived.KernelRfl
namespace Go.Proofs.Ythibbbjjmjaafaa
/- THE CELL 'sum', in the pinned program and in every row, IS THE sha256 OF THE DUMP (.gsa) THAT YthibbbjjmjaafaaProg.lean LOADS. Nothing in Lean hashes anything: it is a label: what it is worth is what the hold of that sum in a sandbox is worth. -/
noncomputable def Try.pinned : Pinned := { name := "ythibbbjjmjaafaa", sum := "949bb155efb095669d41cb1c88a927f98d50b581a6703b20d0f30d9b7abc4f34", checked := Try.checked }
namespace Rows
def none {H : Type} : Left H := { results := [], args := [] }

/-- 'laws.FnExactIsWord': WHATEVER THE INPUT: true; the input reads as it did. -/
def fnExactIsWordSpec : ChangeSpec := { name := "fnExactIsWord", fn := fun _ => fun
  | [d] => { results := [.lit (.bool true)], args := [d] }
  | _ => none }
def fnExactIsWordRow : OpenClaim := { program := "ythibbbjjmjaafaa", sum := "949bb155efb095669d41cb1c88a927f98d50b581a6703b20d0f30d9b7abc4f34", func := "loop.example/g01050/laws.FnExactIsWord", spec := "fnExactIsWord", apart := false }
def FnExactIsWordSaid : Prop := fnExactIsWordRow.holds Try.pinned (OpenSpec.ofChange fnExactIsWordSpec)

/-- ITS FALSE NEIGHBOUR: 'it returns false'. Refute it at one input. -/
def fnExactIsWordWrong : ChangeSpec := { name := "fnExactIsWord", fn := fun _ => fun
  | [d] => { results := [.lit (.bool false)], args := [d] }
  | _ => none }
def FnExactIsWordWrongFalsely : Prop := fnExactIsWordRow.holds Try.pinned (OpenSpec.ofChange fnExactIsWordWrong)

/-- 'laws.FnExactWordsText': WHATEVER THE INPUT: true; the input reads as it did. -/
def fnExactWordsTextSpec : ChangeSpec := { name := "fnExactWordsText", fn := fun _ => fun
  | [d] => { results := [.lit (.bool true)], args := [d] }
  | _ => none }
def fnExactWordsTextRow : OpenClaim := { program := "ythibbbjjmjaafaa", sum := "949bb155efb095669d41cb1c88a927f98d50b581a6703b20d0f30d9b7abc4f34", func := "loop.example/g01050/laws.FnExactWordsText", spec := "fnExactWordsText", apart := false }
def FnExactWordsTextSaid : Prop := fnExactWordsTextRow.holds Try.pinned (OpenSpec.ofChange fnExactWordsTextSpec)

/-- ITS FALSE NEIGHBOUR: 'it returns false'. Refute it at one input. -/
def fnExactWordsTextWrong : ChangeSpec := { name := "fnExactWordsText", fn := fun _ => fun
  | [d] => { results := [.lit (.bool false)], args := [d] }
  | _ => none }
def FnExactWordsTextWrongFalsely : Prop := fnExactWordsTextRow.holds Try.pinned (OpenSpec.ofChange fnExactWordsTextWrong)

/-- 'laws.FnExactReadWords': WHATEVER THE INPUT: true; the input reads as it did. -/
def fnExactReadWordsSpec : ChangeSpec := { name := "fnExactReadWords", fn := fun _ => fun
  | [d] => { results := [.lit (.bool true)], args := [d] }
  | _ => none }
def fnExactReadWordsRow : OpenClaim := { program := "ythibbbjjmjaafaa", sum := "949bb155efb095669d41cb1c88a927f98d50b581a6703b20d0f30d9b7abc4f34", func := "loop.example/g01050/laws.FnExactReadWords", spec := "fnExactReadWords", apart := false }
def FnExactReadWordsSaid : Prop := fnExactReadWordsRow.holds Try.pinned (OpenSpec.ofChange fnExactReadWordsSpec)

/-- ITS FALSE NEIGHBOUR: 'it returns false'. Refute it at one input. -/
def fnExactReadWordsWrong : ChangeSpec := { name := "fnExactReadWords", fn := fun _ => fun
  | [d] => { results := [.lit (.bool false)], args := [d] }
  | _ => none }
def FnExactReadWordsWrongFalsely : Prop := fnExactReadWordsRow.holds Try.pinned (OpenSpec.ofChange fnExactReadWordsWrong)

/-- 'laws.FnWords': WHATEVER THE INPUT: true; the input reads as it did. -/
def fnWordsSpec : ChangeSpec := { name := "fnWords", fn := fun _ => fun
  | [d] => { results := [.lit (.bool true)], args := [d] }
  | _ => none }
def fnWordsRow : OpenClaim := { program := "ythibbbjjmjaafaa", sum := "949bb155efb095669d41cb1c88a927f98d50b581a6703b20d0f30d9b7abc4f34", func := "loop.example/g01050/laws.FnWords", spec := "fnWords", apart := false }
def FnWordsSaid : Prop := fnWordsRow.holds Try.pinned (OpenSpec.ofChange fnWordsSpec)

/-- ITS FALSE NEIGHBOUR: 'it returns false'. Refute it at one input. -/
def fnWordsWrong : ChangeSpec := { name := "fnWords", fn := fun _ => fun
  | [d] => { results := [.lit (.bool false)], args := [d] }
  | _ => none }
def FnWordsWrongFalsely : Prop := fnWordsRow.holds Try.pinned (OpenSpec.ofChange fnWordsWrong)

/-- 'laws.FnExactListText': WHATEVER THE INPUT: true; the input reads as it did. -/
def fnExactListTextSpec : ChangeSpec := { name := "fnExactListText", fn := fun _ => fun
  | [d] => { results := [.lit (.bool true)], args := [d] }
  | _ => none }
def fnExactListTextRow : OpenClaim := { program := "ythibbbjjmjaafaa", sum := "949bb155efb095669d41cb1c88a927f98d50b581a6703b20d0f30d9b7abc4f34", func := "loop.example/g01050/laws.FnExactListText", spec := "fnExactListText", recurses := true, apart := false }
def FnExactListTextSaid : Prop := fnExactListTextRow.holds Try.pinned (OpenSpec.ofChange fnExactListTextSpec)

/-- ITS FALSE NEIGHBOUR: 'it returns false'. Refute it at one input. -/
def fnExactListTextWrong : ChangeSpec := { name := "fnExactListText", fn := fun _ => fun
  | [d] => { results := [.lit (.bool false)], args := [d] }
  | _ => none }
def FnExactListTextWrongFalsely : Prop := fnExactListTextRow.holds Try.pinned (OpenSpec.ofChange fnExactListTextWrong)

/-- 'laws.FnExactReadList': WHATEVER THE INPUT: true; the input reads as it did. -/
def fnExactReadListSpec : ChangeSpec := { name := "fnExactReadList", fn := fun _ => fun
  | [d] => { results := [.lit (.bool true)], args := [d] }
  | _ => none }
def fnExactReadListRow : OpenClaim := { program := "ythibbbjjmjaafaa", sum := "949bb155efb095669d41cb1c88a927f98d50b581a6703b20d0f30d9b7abc4f34", func := "loop.example/g01050/laws.FnExactReadList", spec := "fnExactReadList", recurses := true, apart := false }
def FnExactReadListSaid : Prop := fnExactReadListRow.holds Try.pinned (OpenSpec.ofChange fnExactReadListSpec)

/-- ITS FALSE NEIGHBOUR: 'it returns false'. Refute it at one input. -/
def fnExactReadListWrong : ChangeSpec := { name := "fnExactReadList", fn := fun _ => fun
  | [d] => { results := [.lit (.bool false)], args := [d] }
  | _ => none }
def FnExactReadListWrongFalsely : Prop := fnExactReadListRow.holds Try.pinned (OpenSpec.ofChange fnExactReadListWrong)

/-- 'laws.FnLists': WHATEVER THE INPUT: true; the input reads as it did. -/
def fnListsSpec : ChangeSpec := { name := "fnLists", fn := fun _ => fun
  | [d] => { results := [.lit (.bool true)], args := [d] }
  | _ => none }
def fnListsRow : OpenClaim := { program := "ythibbbjjmjaafaa", sum := "949bb155efb095669d41cb1c88a927f98d50b581a6703b20d0f30d9b7abc4f34", func := "loop.example/g01050/laws.FnLists", spec := "fnLists", recurses := true, apart := false }
def FnListsSaid : Prop := fnListsRow.holds Try.pinned (OpenSpec.ofChange fnListsSpec)

/-- ITS FALSE NEIGHBOUR: 'it returns false'. Refute it at one input. -/
def fnListsWrong : ChangeSpec := { name := "fnLists", fn := fun _ => fun
  | [d] => { results := [.lit (.bool false)], args := [d] }
  | _ => none }
def FnListsWrongFalsely : Prop := fnListsRow.holds Try.pinned (OpenSpec.ofChange fnListsWrong)

/-- 'laws.FnExactSortNumbers': WHATEVER THE INPUT: true; the input reads as it did. -/
def fnExactSortNumbersSpec : ChangeSpec := { name := "fnExactSortNumbers", fn := fun _ => fun
  | [d] => { results := [.lit (.bool true)], args := [d] }
  | _ => none }
def fnExactSortNumbersRow : OpenClaim := { program := "ythibbbjjmjaafaa", sum := "949bb155efb095669d41cb1c88a927f98d50b581a6703b20d0f30d9b7abc4f34", func := "loop.example/g01050/laws.FnExactSortNumbers", spec := "fnExactSortNumbers", apart := false }
def FnExactSortNumbersSaid : Prop := fnExactSortNumbersRow.holds Try.pinned (OpenSpec.ofChange fnExactSortNumbersSpec)

/-- ITS FALSE NEIGHBOUR: 'it returns false'. Refute it at one input. -/
def fnExactSortNumbersWrong : ChangeSpec := { name := "fnExactSortNumbers", fn := fun _ => fun
  | [d] => { results := [.lit (.bool false)], args := [d] }
  | _ => none }
def FnExactSortNumbersWrongFalsely : Prop := fnExactSortNumbersRow.holds Try.pinned (OpenSpec.ofChange fnExactSortNumbersWrong)

/-- 'laws.FnSorted': WHATEVER THE INPUT: true; the input reads as it did. -/
def fnSortedSpec : ChangeSpec := { name := "fnSorted", fn := fun _ => fun
  | [d] => { results := [.lit (.bool true)], args := [d] }
  | _ => none }
def fnSortedRow : OpenClaim := { program := "ythibbbjjmjaafaa", sum := "949bb155efb095669d41cb1c88a927f98d50b581a6703b20d0f30d9b7abc4f34", func := "loop.example/g01050/laws.FnSorted", spec := "fnSorted", apart := false }
def FnSortedSaid : Prop := fnSortedRow.holds Try.pinned (OpenSpec.ofChange fnSortedSpec)

/-- ITS FALSE NEIGHBOUR: 'it returns false'. Refute it at one input. -/
def fnSortedWrong : ChangeSpec := { name := "fnSorted", fn := fun _ => fun
  | [d] => { results := [.lit (.bool false)], args := [d] }
  | _ => none }
def FnSortedWrongFalsely : Prop := fnSortedRow.holds Try.pinned (OpenSpec.ofChange fnSortedWrong)

/- THE SECOND FORM. 'bulk': how many values and letters a reading holds, each counted each time it is reached (what is shared counts as often as it is met; a slice's spare places count too). A statement '..UptoSaid' is the law's where the arguments, and the package variables that the reading takes, are together of bulk at most 1048576: NARROWER than '..Said'. Prove '..Said' where nothing that the law and all that it calls make is longer than what came in: it says more and counts as full. Else prove '..UptoSaid'. A law counts once. -/
mutual
def uptoBulk {H : Type} : DataW H → Nat
  | .lit (.string bytes) => bytes.length + 1
  | .lit _ => 1
  | .nil => 1
  | .ptr d => uptoBulk d + 1
  | .slice elems spare => uptoBulkAll elems + uptoBulkAll spare + 1
  | .agg parts => uptoBulkAll parts + 1
  | .iface _ d => uptoBulk d + 1
  | .map entries => uptoBulkEntries entries + 1
  | .held _ => 1
def uptoBulkAll {H : Type} : List (DataW H) → Nat
  | [] => 0
  | d :: r => uptoBulk d + uptoBulkAll r
def uptoBulkEntries {H : Type} : List (Lit × DataW H) → Nat
  | [] => 0
  | x :: r => uptoBulkEntry x + uptoBulkEntries r
def uptoBulkEntry {H : Type} : Lit × DataW H → Nat
  | (.string bytes, d) => bytes.length + uptoBulk d + 1
  | (_, d) => uptoBulk d + 1
 end
def uptoSmall : (H : Type) → List (DataW H) → Bool := fun _ ds => decide (uptoBulkAll ds ≤ 1048576)
def OpenSpec.upto (s : _root_.Go.ChangeSpec) : _root_.Go.OpenSpec := { _root_.Go.OpenSpec.ofChange s with cond := some uptoSmall }

/-- 'laws.FnExactIsWord', WHERE WHAT IT READS IS OF BULK AT MOST 1048576: true; the input reads as it did. -/
def fnExactIsWordUptoRow : OpenClaim := { program := "ythibbbjjmjaafaa", sum := "949bb155efb095669d41cb1c88a927f98d50b581a6703b20d0f30d9b7abc4f34", func := "loop.example/g01050/laws.FnExactIsWord", spec := "fnExactIsWord", apart := false, narrowed := true }
def FnExactIsWordUptoSaid : Prop := fnExactIsWordUptoRow.holds Try.pinned (OpenSpec.upto fnExactIsWordSpec)

/-- 'laws.FnExactWordsText', WHERE WHAT IT READS IS OF BULK AT MOST 1048576: true; the input reads as it did. -/
def fnExactWordsTextUptoRow : OpenClaim := { program := "ythibbbjjmjaafaa", sum := "949bb155efb095669d41cb1c88a927f98d50b581a6703b20d0f30d9b7abc4f34", func := "loop.example/g01050/laws.FnExactWordsText", spec := "fnExactWordsText", apart := false, narrowed := true }
def FnExactWordsTextUptoSaid : Prop := fnExactWordsTextUptoRow.holds Try.pinned (OpenSpec.upto fnExactWordsTextSpec)

/-- 'laws.FnExactReadWords', WHERE WHAT IT READS IS OF BULK AT MOST 1048576: true; the input reads as it did. -/
def fnExactReadWordsUptoRow : OpenClaim := { program := "ythibbbjjmjaafaa", sum := "949bb155efb095669d41cb1c88a927f98d50b581a6703b20d0f30d9b7abc4f34", func := "loop.example/g01050/laws.FnExactReadWords", spec := "fnExactReadWords", apart := false, narrowed := true }
def FnExactReadWordsUptoSaid : Prop := fnExactReadWordsUptoRow.holds Try.pinned (OpenSpec.upto fnExactReadWordsSpec)

/-- 'laws.FnWords', WHERE WHAT IT READS IS OF BULK AT MOST 1048576: true; the input reads as it did. -/
def fnWordsUptoRow : OpenClaim := { program := "ythibbbjjmjaafaa", sum := "949bb155efb095669d41cb1c88a927f98d50b581a6703b20d0f30d9b7abc4f34", func := "loop.example/g01050/laws.FnWords", spec := "fnWords", apart := false, narrowed := true }
def FnWordsUptoSaid : Prop := fnWordsUptoRow.holds Try.pinned (OpenSpec.upto fnWordsSpec)

/-- 'laws.FnExactListText', WHERE WHAT IT READS IS OF BULK AT MOST 1048576: true; the input reads as it did. -/
def fnExactListTextUptoRow : OpenClaim := { program := "ythibbbjjmjaafaa", sum := "949bb155efb095669d41cb1c88a927f98d50b581a6703b20d0f30d9b7abc4f34", func := "loop.example/g01050/laws.FnExactListText", spec := "fnExactListText", recurses := true, apart := false, narrowed := true }
def FnExactListTextUptoSaid : Prop := fnExactListTextUptoRow.holds Try.pinned (OpenSpec.upto fnExactListTextSpec)

/-- 'laws.FnExactReadList', WHERE WHAT IT READS IS OF BULK AT MOST 1048576: true; the input reads as it did. -/
def fnExactReadListUptoRow : OpenClaim := { program := "ythibbbjjmjaafaa", sum := "949bb155efb095669d41cb1c88a927f98d50b581a6703b20d0f30d9b7abc4f34", func := "loop.example/g01050/laws.FnExactReadList", spec := "fnExactReadList", recurses := true, apart := false, narrowed := true }
def FnExactReadListUptoSaid : Prop := fnExactReadListUptoRow.holds Try.pinned (OpenSpec.upto fnExactReadListSpec)

/-- 'laws.FnLists', WHERE WHAT IT READS IS OF BULK AT MOST 1048576: true; the input reads as it did. -/
def fnListsUptoRow : OpenClaim := { program := "ythibbbjjmjaafaa", sum := "949bb155efb095669d41cb1c88a927f98d50b581a6703b20d0f30d9b7abc4f34", func := "loop.example/g01050/laws.FnLists", spec := "fnLists", recurses := true, apart := false, narrowed := true }
def FnListsUptoSaid : Prop := fnListsUptoRow.holds Try.pinned (OpenSpec.upto fnListsSpec)

/-- 'laws.FnExactSortNumbers', WHERE WHAT IT READS IS OF BULK AT MOST 1048576: true; the input reads as it did. -/
def fnExactSortNumbersUptoRow : OpenClaim := { program := "ythibbbjjmjaafaa", sum := "949bb155efb095669d41cb1c88a927f98d50b581a6703b20d0f30d9b7abc4f34", func := "loop.example/g01050/laws.FnExactSortNumbers", spec := "fnExactSortNumbers", apart := false, narrowed := true }
def FnExactSortNumbersUptoSaid : Prop := fnExactSortNumbersUptoRow.holds Try.pinned (OpenSpec.upto fnExactSortNumbersSpec)

/-- 'laws.FnSorted', WHERE WHAT IT READS IS OF BULK AT MOST 1048576: true; the input reads as it did. -/
def fnSortedUptoRow : OpenClaim := { program := "ythibbbjjmjaafaa", sum := "949bb155efb095669d41cb1c88a927f98d50b581a6703b20d0f30d9b7abc4f34", func := "loop.example/g01050/laws.FnSorted", spec := "fnSorted", apart := false, narrowed := true }
def FnSortedUptoSaid : Prop := fnSortedUptoRow.holds Try.pinned (OpenSpec.upto fnSortedSpec)

end Rows
end Go.Proofs.Ythibbbjjmjaafaa
