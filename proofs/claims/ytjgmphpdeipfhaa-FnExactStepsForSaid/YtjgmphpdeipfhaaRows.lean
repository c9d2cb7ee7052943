/-
  No cell of these rows narrows 'for every input' (looked for: loops, veiled, ifaces, maps, wideKeys, modest, calm, conditions, laid).
  DERIVED. THE GIVEN ROWS OF THIS SEAT. 10 by the template 'for every input the law returns true; each argument reads behind the call as it read before'; 0 by the template 'total and deterministic' (their statements: YtjgmphpdeipfhaaTotals.lean).
  GIVEN WITH THE SEED: the statements are not yours to turn. If you find one false, say at which input.
  Laid BY PROGRAM, IN A SANDBOX (cutbox-rows.mjs): the forced cells as the released guide's own fill.sh prints them over the translation f8f677b6d9b8e026… (all of the seat's roots in one cut). By AI agents, Wed Nov 11 2026. No macro, syntax, notation, axiom, sorry.
-/
import Derived.Test.YtjgmphpdeipfhaaChecked
import GoSem.Claim
import GoSem.ClaimJoined
import GoSem.ClaimMapViews
import Derived.JoinedTies
import Derived.KernelRfl
namespace Go.Proofs.Ytjgmphpdeipfhaa
/- THE CELL 'sum', in the pinned program and in every row, IS THE sha256 OF THE DUMP (.gsa) THAT YtjgmphpdeipfhaaProg.lean LOADS. Nothing in Lean hashes anything: it is a label: what it is worth is what the hold of that sum in a sandbox is worth. -/
noncomputable def Try.pinned : Pinned := { name := "ytjgmphpdeipfhaa", sum := "f8f677b6d9b8e0269f90bb421aa41313114c7f6c4c7206c6f1927567fc6bf770", checked := Try.checked }
namespace Rows
def none {H : Type} : Left H := { results := [], args := [] }

/-- 'laws.FnExactTurnsOf': WHATEVER THE INPUT: true; the input reads as it did. -/
def fnExactTurnsOfSpec : ChangeSpec := { name := "fnExactTurnsOf", fn := fun _ => fun
  | [d] => { results := [.lit (.bool true)], args := [d] }
  | _ => none }
def fnExactTurnsOfRow : OpenClaim := { program := "ytjgmphpdeipfhaa", sum := "f8f677b6d9b8e0269f90bb421aa41313114c7f6c4c7206c6f1927567fc6bf770", func := "loop.example/g01050/laws.FnExactTurnsOf", spec := "fnExactTurnsOf", apart := false }
def FnExactTurnsOfSaid : Prop := fnExactTurnsOfRow.holds Try.pinned (OpenSpec.ofChange fnExactTurnsOfSpec)

/-- ITS FALSE NEIGHBOUR: 'it returns false'. Refute it at one input. -/
def fnExactTurnsOfWrong : ChangeSpec := { name := "fnExactTurnsOf", fn := fun _ => fun
  | [d] => { results := [.lit (.bool false)], args := [d] }
  | _ => none }
def FnExactTurnsOfWrongFalsely : Prop := fnExactTurnsOfRow.holds Try.pinned (OpenSpec.ofChange fnExactTurnsOfWrong)

/-- 'laws.FnExactCosineOf': WHATEVER THE INPUT: true; the input reads as it did. -/
def fnExactCosineOfSpec : ChangeSpec := { name := "fnExactCosineOf", fn := fun _ => fun
  | [d] => { results := [.lit (.bool true)], args := [d] }
  | _ => none }
def fnExactCosineOfRow : OpenClaim := { program := "ytjgmphpdeipfhaa", sum := "f8f677b6d9b8e0269f90bb421aa41313114c7f6c4c7206c6f1927567fc6bf770", func := "loop.example/g01050/laws.FnExactCosineOf", spec := "fnExactCosineOf", apart := false }
def FnExactCosineOfSaid : Prop := fnExactCosineOfRow.holds Try.pinned (OpenSpec.ofChange fnExactCosineOfSpec)

/-- ITS FALSE NEIGHBOUR: 'it returns false'. Refute it at one input. -/
def fnExactCosineOfWrong : ChangeSpec := { name := "fnExactCosineOf", fn := fun _ => fun
  | [d] => { results := [.lit (.bool false)], args := [d] }
  | _ => none }
def FnExactCosineOfWrongFalsely : Prop := fnExactCosineOfRow.holds Try.pinned (OpenSpec.ofChange fnExactCosineOfWrong)

/-- 'laws.FnExactSineOf': WHATEVER THE INPUT: true; the input reads as it did. -/
def fnExactSineOfSpec : ChangeSpec := { name := "fnExactSineOf", fn := fun _ => fun
  | [d] => { results := [.lit (.bool true)], args := [d] }
  | _ => none }
def fnExactSineOfRow : OpenClaim := { program := "ytjgmphpdeipfhaa", sum := "f8f677b6d9b8e0269f90bb421aa41313114c7f6c4c7206c6f1927567fc6bf770", func := "loop.example/g01050/laws.FnExactSineOf", spec := "fnExactSineOf", apart := false }
def FnExactSineOfSaid : Prop := fnExactSineOfRow.holds Try.pinned (OpenSpec.ofChange fnExactSineOfSpec)

/-- ITS FALSE NEIGHBOUR: 'it returns false'. Refute it at one input. -/
def fnExactSineOfWrong : ChangeSpec := { name := "fnExactSineOf", fn := fun _ => fun
  | [d] => { results := [.lit (.bool false)], args := [d] }
  | _ => none }
def FnExactSineOfWrongFalsely : Prop := fnExactSineOfRow.holds Try.pinned (OpenSpec.ofChange fnExactSineOfWrong)

/-- 'laws.FnExactPointOn': WHATEVER THE INPUT: true; the input reads as it did. -/
def fnExactPointOnSpec : ChangeSpec := { name := "fnExactPointOn", fn := fun _ => fun
  | [d1, d2] => { results := [.lit (.bool true)], args := [d1, d2] }
  | _ => none }
def fnExactPointOnRow : OpenClaim := { program := "ytjgmphpdeipfhaa", sum := "f8f677b6d9b8e0269f90bb421aa41313114c7f6c4c7206c6f1927567fc6bf770", func := "loop.example/g01050/laws.FnExactPointOn", spec := "fnExactPointOn", apart := false }
def FnExactPointOnSaid : Prop := fnExactPointOnRow.holds Try.pinned (OpenSpec.ofChange fnExactPointOnSpec)

/-- ITS FALSE NEIGHBOUR: 'it returns false'. Refute it at one input. -/
def fnExactPointOnWrong : ChangeSpec := { name := "fnExactPointOn", fn := fun _ => fun
  | [d1, d2] => { results := [.lit (.bool false)], args := [d1, d2] }
  | _ => none }
def FnExactPointOnWrongFalsely : Prop := fnExactPointOnRow.holds Try.pinned (OpenSpec.ofChange fnExactPointOnWrong)

/-- 'laws.FnExactSquareBetween': WHATEVER THE INPUT: true; the input reads as it did. -/
def fnExactSquareBetweenSpec : ChangeSpec := { name := "fnExactSquareBetween", fn := fun _ => fun
  | [d1, d2, d3] => { results := [.lit (.bool true)], args := [d1, d2, d3] }
  | _ => none }
def fnExactSquareBetweenRow : OpenClaim := { program := "ytjgmphpdeipfhaa", sum := "f8f677b6d9b8e0269f90bb421aa41313114c7f6c4c7206c6f1927567fc6bf770", func := "loop.example/g01050/laws.FnExactSquareBetween", spec := "fnExactSquareBetween", apart := false }
def FnExactSquareBetweenSaid : Prop := fnExactSquareBetweenRow.holds Try.pinned (OpenSpec.ofChange fnExactSquareBetweenSpec)

/-- ITS FALSE NEIGHBOUR: 'it returns false'. Refute it at one input. -/
def fnExactSquareBetweenWrong : ChangeSpec := { name := "fnExactSquareBetween", fn := fun _ => fun
  | [d1, d2, d3] => { results := [.lit (.bool false)], args := [d1, d2, d3] }
  | _ => none }
def FnExactSquareBetweenWrongFalsely : Prop := fnExactSquareBetweenRow.holds Try.pinned (OpenSpec.ofChange fnExactSquareBetweenWrong)

/-- 'laws.FnExactDistanceBetween': WHATEVER THE INPUT: true; the input reads as it did. -/
def fnExactDistanceBetweenSpec : ChangeSpec := { name := "fnExactDistanceBetween", fn := fun _ => fun
  | [d1, d2, d3] => { results := [.lit (.bool true)], args := [d1, d2, d3] }
  | _ => none }
def fnExactDistanceBetweenRow : OpenClaim := { program := "ytjgmphpdeipfhaa", sum := "f8f677b6d9b8e0269f90bb421aa41313114c7f6c4c7206c6f1927567fc6bf770", func := "loop.example/g01050/laws.FnExactDistanceBetween", spec := "fnExactDistanceBetween", apart := false }
def FnExactDistanceBetweenSaid : Prop := fnExactDistanceBetweenRow.holds Try.pinned (OpenSpec.ofChange fnExactDistanceBetweenSpec)

/-- ITS FALSE NEIGHBOUR: 'it returns false'. Refute it at one input. -/
def fnExactDistanceBetweenWrong : ChangeSpec := { name := "fnExactDistanceBetween", fn := fun _ => fun
  | [d1, d2, d3] => { results := [.lit (.bool false)], args := [d1, d2, d3] }
  | _ => none }
def FnExactDistanceBetweenWrongFalsely : Prop := fnExactDistanceBetweenRow.holds Try.pinned (OpenSpec.ofChange fnExactDistanceBetweenWrong)

/-- 'laws.FnExactStepsFor': WHATEVER THE INPUT: true; the input reads as it did. -/
def fnExactStepsForSpec : ChangeSpec := { name := "fnExactStepsFor", fn := fun _ => fun
  | [d1, d2, d3] => { results := [.lit (.bool true)], args := [d1, d2, d3] }
  | _ => none }
def fnExactStepsForRow : OpenClaim := { program := "ytjgmphpdeipfhaa", sum := "f8f677b6d9b8e0269f90bb421aa41313114c7f6c4c7206c6f1927567fc6bf770", func := "loop.example/g01050/laws.FnExactStepsFor", spec := "fnExactStepsFor", apart := false }
def FnExactStepsForSaid : Prop := fnExactStepsForRow.holds Try.pinned (OpenSpec.ofChange fnExactStepsForSpec)

/-- ITS FALSE NEIGHBOUR: 'it returns false'. Refute it at one input. -/
def fnExactStepsForWrong : ChangeSpec := { name := "fnExactStepsFor", fn := fun _ => fun
  | [d1, d2, d3] => { results := [.lit (.bool false)], args := [d1, d2, d3] }
  | _ => none }
def FnExactStepsForWrongFalsely : Prop := fnExactStepsForRow.holds Try.pinned (OpenSpec.ofChange fnExactStepsForWrong)

/-- 'laws.FnCosines': WHATEVER THE INPUT: true; the input reads as it did. -/
def fnCosinesSpec : ChangeSpec := { name := "fnCosines", fn := fun _ => fun
  | [d] => { results := [.lit (.bool true)], args := [d] }
  | _ => none }
def fnCosinesRow : OpenClaim := { program := "ytjgmphpdeipfhaa", sum := "f8f677b6d9b8e0269f90bb421aa41313114c7f6c4c7206c6f1927567fc6bf770", func := "loop.example/g01050/laws.FnCosines", spec := "fnCosines", apart := false }
def FnCosinesSaid : Prop := fnCosinesRow.holds Try.pinned (OpenSpec.ofChange fnCosinesSpec)

/-- ITS FALSE NEIGHBOUR: 'it returns false'. Refute it at one input. -/
def fnCosinesWrong : ChangeSpec := { name := "fnCosines", fn := fun _ => fun
  | [d] => { results := [.lit (.bool false)], args := [d] }
  | _ => none }
def FnCosinesWrongFalsely : Prop := fnCosinesRow.holds Try.pinned (OpenSpec.ofChange fnCosinesWrong)

/-- 'laws.FnTurns': WHATEVER THE INPUT: true; the input reads as it did. -/
def fnTurnsSpec : ChangeSpec := { name := "fnTurns", fn := fun _ => fun
  | [d] => { results := [.lit (.bool true)], args := [d] }
  | _ => none }
def fnTurnsRow : OpenClaim := { program := "ytjgmphpdeipfhaa", sum := "f8f677b6d9b8e0269f90bb421aa41313114c7f6c4c7206c6f1927567fc6bf770", func := "loop.example/g01050/laws.FnTurns", spec := "fnTurns", apart := false }
def FnTurnsSaid : Prop := fnTurnsRow.holds Try.pinned (OpenSpec.ofChange fnTurnsSpec)

/-- ITS FALSE NEIGHBOUR: 'it returns false'. Refute it at one input. -/
def fnTurnsWrong : ChangeSpec := { name := "fnTurns", fn := fun _ => fun
  | [d] => { results := [.lit (.bool false)], args := [d] }
  | _ => none }
def FnTurnsWrongFalsely : Prop := fnTurnsRow.holds Try.pinned (OpenSpec.ofChange fnTurnsWrong)

/-- 'laws.FnChords': WHATEVER THE INPUT: true; the input reads as it did. -/
def fnChordsSpec : ChangeSpec := { name := "fnChords", fn := fun _ => fun
  | [d] => { results := [.lit (.bool true)], args := [d] }
  | _ => none }
def fnChordsRow : OpenClaim := { program := "ytjgmphpdeipfhaa", sum := "f8f677b6d9b8e0269f90bb421aa41313114c7f6c4c7206c6f1927567fc6bf770", func := "loop.example/g01050/laws.FnChords", spec := "fnChords", apart := false }
def FnChordsSaid : Prop := fnChordsRow.holds Try.pinned (OpenSpec.ofChange fnChordsSpec)

/-- ITS FALSE NEIGHBOUR: 'it returns false'. Refute it at one input. -/
def fnChordsWrong : ChangeSpec := { name := "fnChords", fn := fun _ => fun
  | [d] => { results := [.lit (.bool false)], args := [d] }
  | _ => none }
def FnChordsWrongFalsely : Prop := fnChordsRow.holds Try.pinned (OpenSpec.ofChange fnChordsWrong)

/- THE SECOND FORM. 'bulk': how many values and letters a reading holds, each counted each time it is reached (what is shared counts as often as it is met; a slice's spare places count too). A statement '..UptoSaid' is the law's where the arguments, and the package variables that the reading takes, are together of bulk at most 1048576: NARROWER than '..Said'. Prove '..Said' where nothing that the law and all that it calls make is longer than what came in: it says more and counts as full. Else prove '..UptoSaid'. A law counts once. -/
mutual
def uptoBulk {H : Type} : DataW H → Nat
  | .lit (.string bytes) => bytes.length + 1
  | .lit _ => 1
  | .nil => 1
  | .ptr d => uptoBulk d + 1
  | .slice elems spare => uptoBulkAll elems + uptoBulkAll spare + 1
  | .agg parts => uptoBulkAll parts + 1
  | .iface _ d => uptoBulk d + 1
  | .map entries => uptoBulkEntries entries + 1
  | .held _ => 1
def uptoBulkAll {H : Type} : List (DataW H) → Nat
  | [] => 0
  | d :: r => uptoBulk d + uptoBulkAll r
def uptoBulkEntries {H : Type} : List (Lit × DataW H) → Nat
  | [] => 0
  | x :: r => uptoBulkEntry x + uptoBulkEntries r
def uptoBulkEntry {H : Type} : Lit × DataW H → Nat
  | (.string bytes, d) => bytes.length + uptoBulk d + 1
  | (_, d) => uptoBulk d + 1
 end
def uptoSmall : (H : Type) → List (DataW H) → Bool := fun _ ds => decide (uptoBulkAll ds ≤ 1048576)
def OpenSpec.upto (s : _root_.Go.ChangeSpec) : _root_.Go.OpenSpec := { _root_.Go.OpenSpec.ofChange s with cond := some uptoSmall }

/-- 'laws.FnExactTurnsOf', WHERE WHAT IT READS IS OF BULK AT MOST 1048576: true; the input reads as it did. -/
def fnExactTurnsOfUptoRow : OpenClaim := { program := "ytjgmphpdeipfhaa", sum := "f8f677b6d9b8e0269f90bb421aa41313114c7f6c4c7206c6f1927567fc6bf770", func := "loop.example/g01050/laws.FnExactTurnsOf", spec := "fnExactTurnsOf", apart := false, narrowed := true }
def FnExactTurnsOfUptoSaid : Prop := fnExactTurnsOfUptoRow.holds Try.pinned (OpenSpec.upto fnExactTurnsOfSpec)

/-- 'laws.FnExactCosineOf', WHERE WHAT IT READS IS OF BULK AT MOST 1048576: true; the input reads as it did. -/
def fnExactCosineOfUptoRow : OpenClaim := { program := "ytjgmphpdeipfhaa", sum := "f8f677b6d9b8e0269f90bb421aa41313114c7f6c4c7206c6f1927567fc6bf770", func := "loop.example/g01050/laws.FnExactCosineOf", spec := "fnExactCosineOf", apart := false, narrowed := true }
def FnExactCosineOfUptoSaid : Prop := fnExactCosineOfUptoRow.holds Try.pinned (OpenSpec.upto fnExactCosineOfSpec)

/-- 'laws.FnExactSineOf', WHERE WHAT IT READS IS OF BULK AT MOST 1048576: true; the input reads as it did. -/
def fnExactSineOfUptoRow : OpenClaim := { program := "ytjgmphpdeipfhaa", sum := "f8f677b6d9b8e0269f90bb421aa41313114c7f6c4c7206c6f1927567fc6bf770", func := "loop.example/g01050/laws.FnExactSineOf", spec := "fnExactSineOf", apart := false, narrowed := true }
def FnExactSineOfUptoSaid : Prop := fnExactSineOfUptoRow.holds Try.pinned (OpenSpec.upto fnExactSineOfSpec)

/-- 'laws.FnExactPointOn', WHERE WHAT IT READS IS OF BULK AT MOST 1048576: true; the input reads as it did. -/
def fnExactPointOnUptoRow : OpenClaim := { program := "ytjgmphpdeipfhaa", sum := "f8f677b6d9b8e0269f90bb421aa41313114c7f6c4c7206c6f1927567fc6bf770", func := "loop.example/g01050/laws.FnExactPointOn", spec := "fnExactPointOn", apart := false, narrowed := true }
def FnExactPointOnUptoSaid : Prop := fnExactPointOnUptoRow.holds Try.pinned (OpenSpec.upto fnExactPointOnSpec)

/-- 'laws.FnExactSquareBetween', WHERE WHAT IT READS IS OF BULK AT MOST 1048576: true; the input reads as it did. -/
def fnExactSquareBetweenUptoRow : OpenClaim := { program := "ytjgmphpdeipfhaa", sum := "f8f677b6d9b8e0269f90bb421aa41313114c7f6c4c7206c6f1927567fc6bf770", func := "loop.example/g01050/laws.FnExactSquareBetween", spec := "fnExactSquareBetween", apart := false, narrowed := true }
def FnExactSquareBetweenUptoSaid : Prop := fnExactSquareBetweenUptoRow.holds Try.pinned (OpenSpec.upto fnExactSquareBetweenSpec)

/-- 'laws.FnExactDistanceBetween', WHERE WHAT IT READS IS OF BULK AT MOST 1048576: true; the input reads as it did. -/
def fnExactDistanceBetweenUptoRow : OpenClaim := { program := "ytjgmphpdeipfhaa", sum := "f8f677b6d9b8e0269f90bb421aa41313114c7f6c4c7206c6f1927567fc6bf770", func := "loop.example/g01050/laws.FnExactDistanceBetween", spec := "fnExactDistanceBetween", apart := false, narrowed := true }
def FnExactDistanceBetweenUptoSaid : Prop := fnExactDistanceBetweenUptoRow.holds Try.pinned (OpenSpec.upto fnExactDistanceBetweenSpec)

/-- 'laws.FnExactStepsFor', WHERE WHAT IT READS IS OF BULK AT MOST 1048576: true; the input reads as it did. -/
def fnExactStepsForUptoRow : OpenClaim := { program := "ytjgmphpdeipfhaa", sum := "f8f677b6d9b8e0269f90bb421aa41313114c7f6c4c7206c6f1927567fc6bf770", func := "loop.example/g01050/laws.FnExactStepsFor", spec := "fnExactStepsFor", apart := false, narrowed := true }
def FnExactStepsForUptoSaid : Prop := fnExactStepsForUptoRow.holds Try.pinned (OpenSpec.upto fnExactStepsForSpec)

/-- 'laws.FnCosines', WHERE WHAT IT READS IS OF BULK AT MOST 1048576: true; the input reads as it did. -/
def fnCosinesUptoRow : OpenClaim := { program := "ytjgmphpdeipfhaa", sum := "f8f677b6d9b8e0269f90bb421aa41313114c7f6c4c7206c6f1927567fc6bf770", func := "loop.example/g01050/laws.FnCosines", spec := "fnCosines", apart := false, narrowed := true }
def FnCosinesUptoSaid : Prop := fnCosinesUptoRow.holds Try.pinned (OpenSpec.upto fnCosinesSpec)

/-- 'laws.FnTurns', WHERE WHAT IT READS IS OF BULK AT MOST 1048576: true; the input reads as it did. -/
def fnTurnsUptoRow : OpenClaim := { program := "ytjgmphpdeipfhaa", sum := "f8f677b6d9b8e0269f90bb421aa41313114c7f6c4c7206c6f1927567fc6bf770", func := "loop.example/g01050/laws.FnTurns", spec := "fnTurns", apart := false, narrowed := true }
def FnTurnsUptoSaid : Prop := fnTurnsUptoRow.holds Try.pinned (OpenSpec.upto fnTurnsSpec)

/-- 'laws.FnChords', WHERE WHAT IT READS IS OF BULK AT MOST 1048576: true; the input reads as it did. -/
def fnChordsUptoRow : OpenClaim := { program := "ytjgmphpdeipfhaa", sum := "f8f677b6d9b8e0269f90bb421aa41313114c7f6c4c7206c6f1927567fc6bf770", func := "loop.example/g01050/laws.FnChords", spec := "fnChords", apart := false, narrowed := true }
def FnChordsUptoSaid : Prop := fnChordsUptoRow.holds Try.pinned (OpenSpec.upto fnChordsSpec)

end Rows
end Go.Proofs.Ytjgmphpdeipfhaa
