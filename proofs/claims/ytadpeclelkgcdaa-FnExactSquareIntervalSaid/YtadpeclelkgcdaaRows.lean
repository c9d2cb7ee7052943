/-
  No cell of these rows narrows 'for every input' (looked for: loops, veiled, ifaces, maps, wideKeys, modest, calm, conditions, laid).
  DERIVED. THE GIVEN ROWS OF THIS SEAT. 12 by the template 'for every input the law returns true; each argument reads behind the call as it read before'; 0 by the template 'total and deterministic' (their statements: YtadpeclelkgcdaaTotals.lean).
  GIVEN WITH THE SEED: the statements are not yours to turn. If you find one false, say at which input.
  Laid BY PROGRAM, IN A SANDBOX (cutbox-rows.mjs): the forced cells as the released guide's own fill.sh prints them over the translation 0f0c08e57bb2e9b8… (all of the seat's roots in one cut). By AI agents, Wed Nov 11 2026. No macro, syntax, notation, axiom, sorry.
-/
import Derived.Test.YtadpeclelkgcdaaChecked
import GoSem.Claim
import GoSem.ClaimJoined
import GoSem.ClaimMapViews
import Derived.JoinedTies
import Derived.KernelRfl
namespace Go.Proofs.Ytadpeclelkgcdaa
/- THE CELL 'sum', in the pinned program and in every row, IS THE sha256 OF THE DUMP (.gsa) THAT YtadpeclelkgcdaaProg.lean LOADS. Nothing in Lean hashes anything: it is a label: what it is worth is what the hold of that sum in a sandbox is worth. -/
noncomputable def Try.pinned : Pinned := { name := "ytadpeclelkgcdaa", sum := "0f0c08e57bb2e9b86acfcc956c5098a42ee5ee6d75ac18c5c46eaedf2f57a40d", checked := Try.checked }
namespace Rows
def none {H : Type} : Left H := { results := [], args := [] }

/-- 'laws.FnExactConstants': WHATEVER THE INPUT: true; the input reads as it did. -/
def fnExactConstantsSpec : ChangeSpec := { name := "fnExactConstants", fn := fun _ => fun
  | [] => { results := [.lit (.bool true)], args := [] }
  | _ => none }
def fnExactConstantsRow : OpenClaim := { program := "ytadpeclelkgcdaa", sum := "0f0c08e57bb2e9b86acfcc956c5098a42ee5ee6d75ac18c5c46eaedf2f57a40d", func := "loop.example/g01050/laws.FnExactConstants", spec := "fnExactConstants", apart := false }
def FnExactConstantsSaid : Prop := fnExactConstantsRow.holds Try.pinned (OpenSpec.ofChange fnExactConstantsSpec)

/-- ITS FALSE NEIGHBOUR: 'it returns false'. Refute it at one input. -/
def fnExactConstantsWrong : ChangeSpec := { name := "fnExactConstants", fn := fun _ => fun
  | [] => { results := [.lit (.bool false)], args := [] }
  | _ => none }
def FnExactConstantsWrongFalsely : Prop := fnExactConstantsRow.holds Try.pinned (OpenSpec.ofChange fnExactConstantsWrong)

/-- 'laws.FnExactIsInterval': WHATEVER THE INPUT: true; the input reads as it did. -/
def fnExactIsIntervalSpec : ChangeSpec := { name := "fnExactIsInterval", fn := fun _ => fun
  | [d] => { results := [.lit (.bool true)], args := [d] }
  | _ => none }
def fnExactIsIntervalRow : OpenClaim := { program := "ytadpeclelkgcdaa", sum := "0f0c08e57bb2e9b86acfcc956c5098a42ee5ee6d75ac18c5c46eaedf2f57a40d", func := "loop.example/g01050/laws.FnExactIsInterval", spec := "fnExactIsInterval", apart := false }
def FnExactIsIntervalSaid : Prop := fnExactIsIntervalRow.holds Try.pinned (OpenSpec.ofChange fnExactIsIntervalSpec)

/-- ITS FALSE NEIGHBOUR: 'it returns false'. Refute it at one input. -/
def fnExactIsIntervalWrong : ChangeSpec := { name := "fnExactIsInterval", fn := fun _ => fun
  | [d] => { results := [.lit (.bool false)], args := [d] }
  | _ => none }
def FnExactIsIntervalWrongFalsely : Prop := fnExactIsIntervalRow.holds Try.pinned (OpenSpec.ofChange fnExactIsIntervalWrong)

/-- 'laws.FnExactIsSurelyLess': WHATEVER THE INPUT: true; the input reads as it did. -/
def fnExactIsSurelyLessSpec : ChangeSpec := { name := "fnExactIsSurelyLess", fn := fun _ => fun
  | [d1, d2] => { results := [.lit (.bool true)], args := [d1, d2] }
  | _ => none }
def fnExactIsSurelyLessRow : OpenClaim := { program := "ytadpeclelkgcdaa", sum := "0f0c08e57bb2e9b86acfcc956c5098a42ee5ee6d75ac18c5c46eaedf2f57a40d", func := "loop.example/g01050/laws.FnExactIsSurelyLess", spec := "fnExactIsSurelyLess", apart := false }
def FnExactIsSurelyLessSaid : Prop := fnExactIsSurelyLessRow.holds Try.pinned (OpenSpec.ofChange fnExactIsSurelyLessSpec)

/-- ITS FALSE NEIGHBOUR: 'it returns false'. Refute it at one input. -/
def fnExactIsSurelyLessWrong : ChangeSpec := { name := "fnExactIsSurelyLess", fn := fun _ => fun
  | [d1, d2] => { results := [.lit (.bool false)], args := [d1, d2] }
  | _ => none }
def FnExactIsSurelyLessWrongFalsely : Prop := fnExactIsSurelyLessRow.holds Try.pinned (OpenSpec.ofChange fnExactIsSurelyLessWrong)

/-- 'laws.FnExactHullOf': WHATEVER THE INPUT: true; the input reads as it did. -/
def fnExactHullOfSpec : ChangeSpec := { name := "fnExactHullOf", fn := fun _ => fun
  | [d1, d2] => { results := [.lit (.bool true)], args := [d1, d2] }
  | _ => none }
def fnExactHullOfRow : OpenClaim := { program := "ytadpeclelkgcdaa", sum := "0f0c08e57bb2e9b86acfcc956c5098a42ee5ee6d75ac18c5c46eaedf2f57a40d", func := "loop.example/g01050/laws.FnExactHullOf", spec := "fnExactHullOf", apart := false }
def FnExactHullOfSaid : Prop := fnExactHullOfRow.holds Try.pinned (OpenSpec.ofChange fnExactHullOfSpec)

/-- ITS FALSE NEIGHBOUR: 'it returns false'. Refute it at one input. -/
def fnExactHullOfWrong : ChangeSpec := { name := "fnExactHullOf", fn := fun _ => fun
  | [d1, d2] => { results := [.lit (.bool false)], args := [d1, d2] }
  | _ => none }
def FnExactHullOfWrongFalsely : Prop := fnExactHullOfRow.holds Try.pinned (OpenSpec.ofChange fnExactHullOfWrong)

/-- 'laws.FnExactAddIntervals': WHATEVER THE INPUT: true; the input reads as it did. -/
def fnExactAddIntervalsSpec : ChangeSpec := { name := "fnExactAddIntervals", fn := fun _ => fun
  | [d1, d2] => { results := [.lit (.bool true)], args := [d1, d2] }
  | _ => none }
def fnExactAddIntervalsRow : OpenClaim := { program := "ytadpeclelkgcdaa", sum := "0f0c08e57bb2e9b86acfcc956c5098a42ee5ee6d75ac18c5c46eaedf2f57a40d", func := "loop.example/g01050/laws.FnExactAddIntervals", spec := "fnExactAddIntervals", apart := false }
def FnExactAddIntervalsSaid : Prop := fnExactAddIntervalsRow.holds Try.pinned (OpenSpec.ofChange fnExactAddIntervalsSpec)

/-- ITS FALSE NEIGHBOUR: 'it returns false'. Refute it at one input. -/
def fnExactAddIntervalsWrong : ChangeSpec := { name := "fnExactAddIntervals", fn := fun _ => fun
  | [d1, d2] => { results := [.lit (.bool false)], args := [d1, d2] }
  | _ => none }
def FnExactAddIntervalsWrongFalsely : Prop := fnExactAddIntervalsRow.holds Try.pinned (OpenSpec.ofChange fnExactAddIntervalsWrong)

/-- 'laws.FnExactMeetIntervals': WHATEVER THE INPUT: true; the input reads as it did. -/
def fnExactMeetIntervalsSpec : ChangeSpec := { name := "fnExactMeetIntervals", fn := fun _ => fun
  | [d1, d2] => { results := [.lit (.bool true)], args := [d1, d2] }
  | _ => none }
def fnExactMeetIntervalsRow : OpenClaim := { program := "ytadpeclelkgcdaa", sum := "0f0c08e57bb2e9b86acfcc956c5098a42ee5ee6d75ac18c5c46eaedf2f57a40d", func := "loop.example/g01050/laws.FnExactMeetIntervals", spec := "fnExactMeetIntervals", apart := false }
def FnExactMeetIntervalsSaid : Prop := fnExactMeetIntervalsRow.holds Try.pinned (OpenSpec.ofChange fnExactMeetIntervalsSpec)

/-- ITS FALSE NEIGHBOUR: 'it returns false'. Refute it at one input. -/
def fnExactMeetIntervalsWrong : ChangeSpec := { name := "fnExactMeetIntervals", fn := fun _ => fun
  | [d1, d2] => { results := [.lit (.bool false)], args := [d1, d2] }
  | _ => none }
def FnExactMeetIntervalsWrongFalsely : Prop := fnExactMeetIntervalsRow.holds Try.pinned (OpenSpec.ofChange fnExactMeetIntervalsWrong)

/-- 'laws.FnExactTimesInterval': WHATEVER THE INPUT: true; the input reads as it did. -/
def fnExactTimesIntervalSpec : ChangeSpec := { name := "fnExactTimesInterval", fn := fun _ => fun
  | [d1, d2] => { results := [.lit (.bool true)], args := [d1, d2] }
  | _ => none }
def fnExactTimesIntervalRow : OpenClaim := { program := "ytadpeclelkgcdaa", sum := "0f0c08e57bb2e9b86acfcc956c5098a42ee5ee6d75ac18c5c46eaedf2f57a40d", func := "loop.example/g01050/laws.FnExactTimesInterval", spec := "fnExactTimesInterval", apart := false }
def FnExactTimesIntervalSaid : Prop := fnExactTimesIntervalRow.holds Try.pinned (OpenSpec.ofChange fnExactTimesIntervalSpec)

/-- ITS FALSE NEIGHBOUR: 'it returns false'. Refute it at one input. -/
def fnExactTimesIntervalWrong : ChangeSpec := { name := "fnExactTimesInterval", fn := fun _ => fun
  | [d1, d2] => { results := [.lit (.bool false)], args := [d1, d2] }
  | _ => none }
def FnExactTimesIntervalWrongFalsely : Prop := fnExactTimesIntervalRow.holds Try.pinned (OpenSpec.ofChange fnExactTimesIntervalWrong)

/-- 'laws.FnExactSquareInterval': WHATEVER THE INPUT: true; the input reads as it did. -/
def fnExactSquareIntervalSpec : ChangeSpec := { name := "fnExactSquareInterval", fn := fun _ => fun
  | [d] => { results := [.lit (.bool true)], args := [d] }
  | _ => none }
def fnExactSquareIntervalRow : OpenClaim := { program := "ytadpeclelkgcdaa", sum := "0f0c08e57bb2e9b86acfcc956c5098a42ee5ee6d75ac18c5c46eaedf2f57a40d", func := "loop.example/g01050/laws.FnExactSquareInterval", spec := "fnExactSquareInterval", apart := false }
def FnExactSquareIntervalSaid : Prop := fnExactSquareIntervalRow.holds Try.pinned (OpenSpec.ofChange fnExactSquareIntervalSpec)

/-- ITS FALSE NEIGHBOUR: 'it returns false'. Refute it at one input. -/
def fnExactSquareIntervalWrong : ChangeSpec := { name := "fnExactSquareInterval", fn := fun _ => fun
  | [d] => { results := [.lit (.bool false)], args := [d] }
  | _ => none }
def FnExactSquareIntervalWrongFalsely : Prop := fnExactSquareIntervalRow.holds Try.pinned (OpenSpec.ofChange fnExactSquareIntervalWrong)

/-- 'laws.FnExactRootInterval': WHATEVER THE INPUT: true; the input reads as it did. -/
def fnExactRootIntervalSpec : ChangeSpec := { name := "fnExactRootInterval", fn := fun _ => fun
  | [d] => { results := [.lit (.bool true)], args := [d] }
  | _ => none }
def fnExactRootIntervalRow : OpenClaim := { program := "ytadpeclelkgcdaa", sum := "0f0c08e57bb2e9b86acfcc956c5098a42ee5ee6d75ac18c5c46eaedf2f57a40d", func := "loop.example/g01050/laws.FnExactRootInterval", spec := "fnExactRootInterval", apart := false }
def FnExactRootIntervalSaid : Prop := fnExactRootIntervalRow.holds Try.pinned (OpenSpec.ofChange fnExactRootIntervalSpec)

/-- ITS FALSE NEIGHBOUR: 'it returns false'. Refute it at one input. -/
def fnExactRootIntervalWrong : ChangeSpec := { name := "fnExactRootInterval", fn := fun _ => fun
  | [d] => { results := [.lit (.bool false)], args := [d] }
  | _ => none }
def FnExactRootIntervalWrongFalsely : Prop := fnExactRootIntervalRow.holds Try.pinned (OpenSpec.ofChange fnExactRootIntervalWrong)

/-- 'laws.FnMeets': WHATEVER THE INPUT: true; the input reads as it did. -/
def fnMeetsSpec : ChangeSpec := { name := "fnMeets", fn := fun _ => fun
  | [d] => { results := [.lit (.bool true)], args := [d] }
  | _ => none }
def fnMeetsRow : OpenClaim := { program := "ytadpeclelkgcdaa", sum := "0f0c08e57bb2e9b86acfcc956c5098a42ee5ee6d75ac18c5c46eaedf2f57a40d", func := "loop.example/g01050/laws.FnMeets", spec := "fnMeets", apart := false }
def FnMeetsSaid : Prop := fnMeetsRow.holds Try.pinned (OpenSpec.ofChange fnMeetsSpec)

/-- ITS FALSE NEIGHBOUR: 'it returns false'. Refute it at one input. -/
def fnMeetsWrong : ChangeSpec := { name := "fnMeets", fn := fun _ => fun
  | [d] => { results := [.lit (.bool false)], args := [d] }
  | _ => none }
def FnMeetsWrongFalsely : Prop := fnMeetsRow.holds Try.pinned (OpenSpec.ofChange fnMeetsWrong)

/-- 'laws.FnSums': WHATEVER THE INPUT: true; the input reads as it did. -/
def fnSumsSpec : ChangeSpec := { name := "fnSums", fn := fun _ => fun
  | [d] => { results := [.lit (.bool true)], args := [d] }
  | _ => none }
def fnSumsRow : OpenClaim := { program := "ytadpeclelkgcdaa", sum := "0f0c08e57bb2e9b86acfcc956c5098a42ee5ee6d75ac18c5c46eaedf2f57a40d", func := "loop.example/g01050/laws.FnSums", spec := "fnSums", apart := false }
def FnSumsSaid : Prop := fnSumsRow.holds Try.pinned (OpenSpec.ofChange fnSumsSpec)

/-- ITS FALSE NEIGHBOUR: 'it returns false'. Refute it at one input. -/
def fnSumsWrong : ChangeSpec := { name := "fnSums", fn := fun _ => fun
  | [d] => { results := [.lit (.bool false)], args := [d] }
  | _ => none }
def FnSumsWrongFalsely : Prop := fnSumsRow.holds Try.pinned (OpenSpec.ofChange fnSumsWrong)

/-- 'laws.FnRoots': WHATEVER THE INPUT: true; the input reads as it did. -/
def fnRootsSpec : ChangeSpec := { name := "fnRoots", fn := fun _ => fun
  | [d] => { results := [.lit (.bool true)], args := [d] }
  | _ => none }
def fnRootsRow : OpenClaim := { program := "ytadpeclelkgcdaa", sum := "0f0c08e57bb2e9b86acfcc956c5098a42ee5ee6d75ac18c5c46eaedf2f57a40d", func := "loop.example/g01050/laws.FnRoots", spec := "fnRoots", apart := false }
def FnRootsSaid : Prop := fnRootsRow.holds Try.pinned (OpenSpec.ofChange fnRootsSpec)

/-- ITS FALSE NEIGHBOUR: 'it returns false'. Refute it at one input. -/
def fnRootsWrong : ChangeSpec := { name := "fnRoots", fn := fun _ => fun
  | [d] => { results := [.lit (.bool false)], args := [d] }
  | _ => none }
def FnRootsWrongFalsely : Prop := fnRootsRow.holds Try.pinned (OpenSpec.ofChange fnRootsWrong)

/- THE SECOND FORM. 'bulk': how many values and letters a reading holds, each counted each time it is reached (what is shared counts as often as it is met; a slice's spare places count too). A statement '..UptoSaid' is the law's where the arguments, and the package variables that the reading takes, are together of bulk at most 1048576: NARROWER than '..Said'. Prove '..Said' where nothing that the law and all that it calls make is longer than what came in: it says more and counts as full. Else prove '..UptoSaid'. A law counts once. -/
mutual
def uptoBulk {H : Type} : DataW H → Nat
  | .lit (.string bytes) => bytes.length + 1
  | .lit _ => 1
  | .nil => 1
  | .ptr d => uptoBulk d + 1
  | .slice elems spare => uptoBulkAll elems + uptoBulkAll spare + 1
  | .agg parts => uptoBulkAll parts + 1
  | .iface _ d => uptoBulk d + 1
  | .map entries => uptoBulkEntries entries + 1
  | .held _ => 1
def uptoBulkAll {H : Type} : List (DataW H) → Nat
  | [] => 0
  | d :: r => uptoBulk d + uptoBulkAll r
def uptoBulkEntries {H : Type} : List (Lit × DataW H) → Nat
  | [] => 0
  | x :: r => uptoBulkEntry x + uptoBulkEntries r
def uptoBulkEntry {H : Type} : Lit × DataW H → Nat
  | (.string bytes, d) => bytes.length + uptoBulk d + 1
  | (_, d) => uptoBulk d + 1
 end
def uptoSmall : (H : Type) → List (DataW H) → Bool := fun _ ds => decide (uptoBulkAll ds ≤ 1048576)
def OpenSpec.upto (s : _root_.Go.ChangeSpec) : _root_.Go.OpenSpec := { _root_.Go.OpenSpec.ofChange s with cond := some uptoSmall }

/-- 'laws.FnExactConstants', WHERE WHAT IT READS IS OF BULK AT MOST 1048576: true; the input reads as it did. -/
def fnExactConstantsUptoRow : OpenClaim := { program := "ytadpeclelkgcdaa", sum := "0f0c08e57bb2e9b86acfcc956c5098a42ee5ee6d75ac18c5c46eaedf2f57a40d", func := "loop.example/g01050/laws.FnExactConstants", spec := "fnExactConstants", apart := false, narrowed := true }
def FnExactConstantsUptoSaid : Prop := fnExactConstantsUptoRow.holds Try.pinned (OpenSpec.upto fnExactConstantsSpec)

/-- 'laws.FnExactIsInterval', WHERE WHAT IT READS IS OF BULK AT MOST 1048576: true; the input reads as it did. -/
def fnExactIsIntervalUptoRow : OpenClaim := { program := "ytadpeclelkgcdaa", sum := "0f0c08e57bb2e9b86acfcc956c5098a42ee5ee6d75ac18c5c46eaedf2f57a40d", func := "loop.example/g01050/laws.FnExactIsInterval", spec := "fnExactIsInterval", apart := false, narrowed := true }
def FnExactIsIntervalUptoSaid : Prop := fnExactIsIntervalUptoRow.holds Try.pinned (OpenSpec.upto fnExactIsIntervalSpec)

/-- 'laws.FnExactIsSurelyLess', WHERE WHAT IT READS IS OF BULK AT MOST 1048576: true; the input reads as it did. -/
def fnExactIsSurelyLessUptoRow : OpenClaim := { program := "ytadpeclelkgcdaa", sum := "0f0c08e57bb2e9b86acfcc956c5098a42ee5ee6d75ac18c5c46eaedf2f57a40d", func := "loop.example/g01050/laws.FnExactIsSurelyLess", spec := "fnExactIsSurelyLess", apart := false, narrowed := true }
def FnExactIsSurelyLessUptoSaid : Prop := fnExactIsSurelyLessUptoRow.holds Try.pinned (OpenSpec.upto fnExactIsSurelyLessSpec)

/-- 'laws.FnExactHullOf', WHERE WHAT IT READS IS OF BULK AT MOST 1048576: true; the input reads as it did. -/
def fnExactHullOfUptoRow : OpenClaim := { program := "ytadpeclelkgcdaa", sum := "0f0c08e57bb2e9b86acfcc956c5098a42ee5ee6d75ac18c5c46eaedf2f57a40d", func := "loop.example/g01050/laws.FnExactHullOf", spec := "fnExactHullOf", apart := false, narrowed := true }
def FnExactHullOfUptoSaid : Prop := fnExactHullOfUptoRow.holds Try.pinned (OpenSpec.upto fnExactHullOfSpec)

/-- 'laws.FnExactAddIntervals', WHERE WHAT IT READS IS OF BULK AT MOST 1048576: true; the input reads as it did. -/
def fnExactAddIntervalsUptoRow : OpenClaim := { program := "ytadpeclelkgcdaa", sum := "0f0c08e57bb2e9b86acfcc956c5098a42ee5ee6d75ac18c5c46eaedf2f57a40d", func := "loop.example/g01050/laws.FnExactAddIntervals", spec := "fnExactAddIntervals", apart := false, narrowed := true }
def FnExactAddIntervalsUptoSaid : Prop := fnExactAddIntervalsUptoRow.holds Try.pinned (OpenSpec.upto fnExactAddIntervalsSpec)

/-- 'laws.FnExactMeetIntervals', WHERE WHAT IT READS IS OF BULK AT MOST 1048576: true; the input reads as it did. -/
def fnExactMeetIntervalsUptoRow : OpenClaim := { program := "ytadpeclelkgcdaa", sum := "0f0c08e57bb2e9b86acfcc956c5098a42ee5ee6d75ac18c5c46eaedf2f57a40d", func := "loop.example/g01050/laws.FnExactMeetIntervals", spec := "fnExactMeetIntervals", apart := false, narrowed := true }
def FnExactMeetIntervalsUptoSaid : Prop := fnExactMeetIntervalsUptoRow.holds Try.pinned (OpenSpec.upto fnExactMeetIntervalsSpec)

/-- 'laws.FnExactTimesInterval', WHERE WHAT IT READS IS OF BULK AT MOST 1048576: true; the input reads as it did. -/
def fnExactTimesIntervalUptoRow : OpenClaim := { program := "ytadpeclelkgcdaa", sum := "0f0c08e57bb2e9b86acfcc956c5098a42ee5ee6d75ac18c5c46eaedf2f57a40d", func := "loop.example/g01050/laws.FnExactTimesInterval", spec := "fnExactTimesInterval", apart := false, narrowed := true }
def FnExactTimesIntervalUptoSaid : Prop := fnExactTimesIntervalUptoRow.holds Try.pinned (OpenSpec.upto fnExactTimesIntervalSpec)

/-- 'laws.FnExactSquareInterval', WHERE WHAT IT READS IS OF BULK AT MOST 1048576: true; the input reads as it did. -/
def fnExactSquareIntervalUptoRow : OpenClaim := { program := "ytadpeclelkgcdaa", sum := "0f0c08e57bb2e9b86acfcc956c5098a42ee5ee6d75ac18c5c46eaedf2f57a40d", func := "loop.example/g01050/laws.FnExactSquareInterval", spec := "fnExactSquareInterval", apart := false, narrowed := true }
def FnExactSquareIntervalUptoSaid : Prop := fnExactSquareIntervalUptoRow.holds Try.pinned (OpenSpec.upto fnExactSquareIntervalSpec)

/-- 'laws.FnExactRootInterval', WHERE WHAT IT READS IS OF BULK AT MOST 1048576: true; the input reads as it did. -/
def fnExactRootIntervalUptoRow : OpenClaim := { program := "ytadpeclelkgcdaa", sum := "0f0c08e57bb2e9b86acfcc956c5098a42ee5ee6d75ac18c5c46eaedf2f57a40d", func := "loop.example/g01050/laws.FnExactRootInterval", spec := "fnExactRootInterval", apart := false, narrowed := true }
def FnExactRootIntervalUptoSaid : Prop := fnExactRootIntervalUptoRow.holds Try.pinned (OpenSpec.upto fnExactRootIntervalSpec)

/-- 'laws.FnMeets', WHERE WHAT IT READS IS OF BULK AT MOST 1048576: true; the input reads as it did. -/
def fnMeetsUptoRow : OpenClaim := { program := "ytadpeclelkgcdaa", sum := "0f0c08e57bb2e9b86acfcc956c5098a42ee5ee6d75ac18c5c46eaedf2f57a40d", func := "loop.example/g01050/laws.FnMeets", spec := "fnMeets", apart := false, narrowed := true }
def FnMeetsUptoSaid : Prop := fnMeetsUptoRow.holds Try.pinned (OpenSpec.upto fnMeetsSpec)

/-- 'laws.FnSums', WHERE WHAT IT READS IS OF BULK AT MOST 1048576: true; the input reads as it did. -/
def fnSumsUptoRow : OpenClaim := { program := "ytadpeclelkgcdaa", sum := "0f0c08e57bb2e9b86acfcc956c5098a42ee5ee6d75ac18c5c46eaedf2f57a40d", func := "loop.example/g01050/laws.FnSums", spec := "fnSums", apart := false, narrowed := true }
def FnSumsUptoSaid : Prop := fnSumsUptoRow.holds Try.pinned (OpenSpec.upto fnSumsSpec)

/-- 'laws.FnRoots', WHERE WHAT IT READS IS OF BULK AT MOST 1048576: true; the input reads as it did. -/
def fnRootsUptoRow : OpenClaim := { program := "ytadpeclelkgcdaa", sum := "0f0c08e57bb2e9b86acfcc956c5098a42ee5ee6d75ac18c5c46eaedf2f57a40d", func := "loop.example/g01050/laws.FnRoots", spec := "fnRoots", apart := false, narrowed := true }
def FnRootsUptoSaid : Prop := fnRootsUptoRow.holds Try.pinned (OpenSpec.upto fnRootsSpec)

end Rows
end Go.Proofs.Ytadpeclelkgcdaa
