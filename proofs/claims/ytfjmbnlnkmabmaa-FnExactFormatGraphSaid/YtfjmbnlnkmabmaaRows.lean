/-
  No cell of these rows narrows 'for every input' (looked for: loops, veiled, ifaces, maps, wideKeys, modest, calm, conditions, laid).
  DERIVED. THE GIVEN ROWS OF THIS SEAT. 10 by the template 'for every input the law returns true; each argument reads behind the call as it read before'; 0 by the template 'total and deterministic' (their statements: YtfjmbnlnkmabmaaTotals.lean).
  GIVEN WITH THE SEED: the statements are not yours to turn. If you find one false, say at which input.
  Laid BY PROGRAM, IN A SANDBOX (cutbox-rows.mjs): the forced cells as the released guide's own fill.sh prints them over the translation 2165ded12f5c85f2… (all of the seat's roots in one cut). By AI agents, Wed Nov 11 2026. No macro, syntax, notation, axiom, sorry.
-/
import Derived.Test.YtfjmbnlnkmabmaaChecked
import GoSem.Claim
import GoSem.ClaimJoined
import GoSem.ClaimMapViews
import Derived.JoinedTies
import Derived.KernelRfl
namespace Go.Proofs.Ytfjmbnlnkmabmaa
/- THE CELL 'sum', in the pinned program and in every row, IS THE sha256 OF THE DUMP (.gsa) THAT YtfjmbnlnkmabmaaProg.lean LOADS. Nothing in Lean hashes anything: it is a label: what it is worth is what the hold of that sum in a sandbox is worth. -/
noncomputable def Try.pinned : Pinned := { name := "ytfjmbnlnkmabmaa", sum := "2165ded12f5c85f2482ffaff1b7cd11b86e9116a8899dcc2d1556013608e4879", checked := Try.checked }
namespace Rows
def none {H : Type} : Left H := { results := [], args := [] }

/-- 'laws.FnExactCountBar': WHATEVER THE INPUT: true; the input reads as it did. -/
def fnExactCountBarSpec : ChangeSpec := { name := "fnExactCountBar", fn := fun _ => fun
  | [d1, d2, d3] => { results := [.lit (.bool true)], args := [d1, d2, d3] }
  | _ => none }
def fnExactCountBarRow : OpenClaim := { program := "ytfjmbnlnkmabmaa", sum := "2165ded12f5c85f2482ffaff1b7cd11b86e9116a8899dcc2d1556013608e4879", func := "loop.example/g02078/laws.FnExactCountBar", spec := "fnExactCountBar", apart := false }
def FnExactCountBarSaid : Prop := fnExactCountBarRow.holds Try.pinned (OpenSpec.ofChange fnExactCountBarSpec)

/-- ITS FALSE NEIGHBOUR: 'it returns false'. Refute it at one input. -/
def fnExactCountBarWrong : ChangeSpec := { name := "fnExactCountBar", fn := fun _ => fun
  | [d1, d2, d3] => { results := [.lit (.bool false)], args := [d1, d2, d3] }
  | _ => none }
def FnExactCountBarWrongFalsely : Prop := fnExactCountBarRow.holds Try.pinned (OpenSpec.ofChange fnExactCountBarWrong)

/-- 'laws.FnExactDegreeOf': WHATEVER THE INPUT: true; the input reads as it did. -/
def fnExactDegreeOfSpec : ChangeSpec := { name := "fnExactDegreeOf", fn := fun _ => fun
  | [d1, d2] => { results := [.lit (.bool true)], args := [d1, d2] }
  | _ => none }
def fnExactDegreeOfRow : OpenClaim := { program := "ytfjmbnlnkmabmaa", sum := "2165ded12f5c85f2482ffaff1b7cd11b86e9116a8899dcc2d1556013608e4879", func := "loop.example/g02078/laws.FnExactDegreeOf", spec := "fnExactDegreeOf", apart := false }
def FnExactDegreeOfSaid : Prop := fnExactDegreeOfRow.holds Try.pinned (OpenSpec.ofChange fnExactDegreeOfSpec)

/-- ITS FALSE NEIGHBOUR: 'it returns false'. Refute it at one input. -/
def fnExactDegreeOfWrong : ChangeSpec := { name := "fnExactDegreeOf", fn := fun _ => fun
  | [d1, d2] => { results := [.lit (.bool false)], args := [d1, d2] }
  | _ => none }
def FnExactDegreeOfWrongFalsely : Prop := fnExactDegreeOfRow.holds Try.pinned (OpenSpec.ofChange fnExactDegreeOfWrong)

/-- 'laws.FnExactEqualGraphs': WHATEVER THE INPUT: true; the input reads as it did. -/
def fnExactEqualGraphsSpec : ChangeSpec := { name := "fnExactEqualGraphs", fn := fun _ => fun
  | [d1, d2] => { results := [.lit (.bool true)], args := [d1, d2] }
  | _ => none }
def fnExactEqualGraphsRow : OpenClaim := { program := "ytfjmbnlnkmabmaa", sum := "2165ded12f5c85f2482ffaff1b7cd11b86e9116a8899dcc2d1556013608e4879", func := "loop.example/g02078/laws.FnExactEqualGraphs", spec := "fnExactEqualGraphs", apart := false }
def FnExactEqualGraphsSaid : Prop := fnExactEqualGraphsRow.holds Try.pinned (OpenSpec.ofChange fnExactEqualGraphsSpec)

/-- ITS FALSE NEIGHBOUR: 'it returns false'. Refute it at one input. -/
def fnExactEqualGraphsWrong : ChangeSpec := { name := "fnExactEqualGraphs", fn := fun _ => fun
  | [d1, d2] => { results := [.lit (.bool false)], args := [d1, d2] }
  | _ => none }
def FnExactEqualGraphsWrongFalsely : Prop := fnExactEqualGraphsRow.holds Try.pinned (OpenSpec.ofChange fnExactEqualGraphsWrong)

/-- 'laws.FnExactCompleteGraph': WHATEVER THE INPUT: true; the input reads as it did. -/
def fnExactCompleteGraphSpec : ChangeSpec := { name := "fnExactCompleteGraph", fn := fun _ => fun
  | [d] => { results := [.lit (.bool true)], args := [d] }
  | _ => none }
def fnExactCompleteGraphRow : OpenClaim := { program := "ytfjmbnlnkmabmaa", sum := "2165ded12f5c85f2482ffaff1b7cd11b86e9116a8899dcc2d1556013608e4879", func := "loop.example/g02078/laws.FnExactCompleteGraph", spec := "fnExactCompleteGraph", apart := false }
def FnExactCompleteGraphSaid : Prop := fnExactCompleteGraphRow.holds Try.pinned (OpenSpec.ofChange fnExactCompleteGraphSpec)

/-- ITS FALSE NEIGHBOUR: 'it returns false'. Refute it at one input. -/
def fnExactCompleteGraphWrong : ChangeSpec := { name := "fnExactCompleteGraph", fn := fun _ => fun
  | [d] => { results := [.lit (.bool false)], args := [d] }
  | _ => none }
def FnExactCompleteGraphWrongFalsely : Prop := fnExactCompleteGraphRow.holds Try.pinned (OpenSpec.ofChange fnExactCompleteGraphWrong)

/-- 'laws.FnExactIsGraph': WHATEVER THE INPUT: true; the input reads as it did. -/
def fnExactIsGraphSpec : ChangeSpec := { name := "fnExactIsGraph", fn := fun _ => fun
  | [d] => { results := [.lit (.bool true)], args := [d] }
  | _ => none }
def fnExactIsGraphRow : OpenClaim := { program := "ytfjmbnlnkmabmaa", sum := "2165ded12f5c85f2482ffaff1b7cd11b86e9116a8899dcc2d1556013608e4879", func := "loop.example/g02078/laws.FnExactIsGraph", spec := "fnExactIsGraph", apart := false }
def FnExactIsGraphSaid : Prop := fnExactIsGraphRow.holds Try.pinned (OpenSpec.ofChange fnExactIsGraphSpec)

/-- ITS FALSE NEIGHBOUR: 'it returns false'. Refute it at one input. -/
def fnExactIsGraphWrong : ChangeSpec := { name := "fnExactIsGraph", fn := fun _ => fun
  | [d] => { results := [.lit (.bool false)], args := [d] }
  | _ => none }
def FnExactIsGraphWrongFalsely : Prop := fnExactIsGraphRow.holds Try.pinned (OpenSpec.ofChange fnExactIsGraphWrong)

/-- 'laws.FnExactCountFreedom': WHATEVER THE INPUT: true; the input reads as it did. -/
def fnExactCountFreedomSpec : ChangeSpec := { name := "fnExactCountFreedom", fn := fun _ => fun
  | [d1, d2, d3] => { results := [.lit (.bool true)], args := [d1, d2, d3] }
  | _ => none }
def fnExactCountFreedomRow : OpenClaim := { program := "ytfjmbnlnkmabmaa", sum := "2165ded12f5c85f2482ffaff1b7cd11b86e9116a8899dcc2d1556013608e4879", func := "loop.example/g02078/laws.FnExactCountFreedom", spec := "fnExactCountFreedom", apart := false }
def FnExactCountFreedomSaid : Prop := fnExactCountFreedomRow.holds Try.pinned (OpenSpec.ofChange fnExactCountFreedomSpec)

/-- ITS FALSE NEIGHBOUR: 'it returns false'. Refute it at one input. -/
def fnExactCountFreedomWrong : ChangeSpec := { name := "fnExactCountFreedom", fn := fun _ => fun
  | [d1, d2, d3] => { results := [.lit (.bool false)], args := [d1, d2, d3] }
  | _ => none }
def FnExactCountFreedomWrongFalsely : Prop := fnExactCountFreedomRow.holds Try.pinned (OpenSpec.ofChange fnExactCountFreedomWrong)

/-- 'laws.FnExactRemoveBar': WHATEVER THE INPUT: true; the input reads as it did. -/
def fnExactRemoveBarSpec : ChangeSpec := { name := "fnExactRemoveBar", fn := fun _ => fun
  | [d1, d2] => { results := [.lit (.bool true)], args := [d1, d2] }
  | _ => none }
def fnExactRemoveBarRow : OpenClaim := { program := "ytfjmbnlnkmabmaa", sum := "2165ded12f5c85f2482ffaff1b7cd11b86e9116a8899dcc2d1556013608e4879", func := "loop.example/g02078/laws.FnExactRemoveBar", spec := "fnExactRemoveBar", apart := false }
def FnExactRemoveBarSaid : Prop := fnExactRemoveBarRow.holds Try.pinned (OpenSpec.ofChange fnExactRemoveBarSpec)

/-- ITS FALSE NEIGHBOUR: 'it returns false'. Refute it at one input. -/
def fnExactRemoveBarWrong : ChangeSpec := { name := "fnExactRemoveBar", fn := fun _ => fun
  | [d1, d2] => { results := [.lit (.bool false)], args := [d1, d2] }
  | _ => none }
def FnExactRemoveBarWrongFalsely : Prop := fnExactRemoveBarRow.holds Try.pinned (OpenSpec.ofChange fnExactRemoveBarWrong)

/-- 'laws.FnExactOnlyBars': WHATEVER THE INPUT: true; the input reads as it did. -/
def fnExactOnlyBarsSpec : ChangeSpec := { name := "fnExactOnlyBars", fn := fun _ => fun
  | [d1, d2] => { results := [.lit (.bool true)], args := [d1, d2] }
  | _ => none }
def fnExactOnlyBarsRow : OpenClaim := { program := "ytfjmbnlnkmabmaa", sum := "2165ded12f5c85f2482ffaff1b7cd11b86e9116a8899dcc2d1556013608e4879", func := "loop.example/g02078/laws.FnExactOnlyBars", spec := "fnExactOnlyBars", apart := false }
def FnExactOnlyBarsSaid : Prop := fnExactOnlyBarsRow.holds Try.pinned (OpenSpec.ofChange fnExactOnlyBarsSpec)

/-- ITS FALSE NEIGHBOUR: 'it returns false'. Refute it at one input. -/
def fnExactOnlyBarsWrong : ChangeSpec := { name := "fnExactOnlyBars", fn := fun _ => fun
  | [d1, d2] => { results := [.lit (.bool false)], args := [d1, d2] }
  | _ => none }
def FnExactOnlyBarsWrongFalsely : Prop := fnExactOnlyBarsRow.holds Try.pinned (OpenSpec.ofChange fnExactOnlyBarsWrong)

/-- 'laws.FnExactFormatSets': WHATEVER THE INPUT: true; the input reads as it did. -/
def fnExactFormatSetsSpec : ChangeSpec := { name := "fnExactFormatSets", fn := fun _ => fun
  | [d] => { results := [.lit (.bool true)], args := [d] }
  | _ => none }
def fnExactFormatSetsRow : OpenClaim := { program := "ytfjmbnlnkmabmaa", sum := "2165ded12f5c85f2482ffaff1b7cd11b86e9116a8899dcc2d1556013608e4879", func := "loop.example/g02078/laws.FnExactFormatSets", spec := "fnExactFormatSets", apart := false }
def FnExactFormatSetsSaid : Prop := fnExactFormatSetsRow.holds Try.pinned (OpenSpec.ofChange fnExactFormatSetsSpec)

/-- ITS FALSE NEIGHBOUR: 'it returns false'. Refute it at one input. -/
def fnExactFormatSetsWrong : ChangeSpec := { name := "fnExactFormatSets", fn := fun _ => fun
  | [d] => { results := [.lit (.bool false)], args := [d] }
  | _ => none }
def FnExactFormatSetsWrongFalsely : Prop := fnExactFormatSetsRow.holds Try.pinned (OpenSpec.ofChange fnExactFormatSetsWrong)

/-- 'laws.FnExactFormatGraph': WHATEVER THE INPUT: true; the input reads as it did. -/
def fnExactFormatGraphSpec : ChangeSpec := { name := "fnExactFormatGraph", fn := fun _ => fun
  | [d] => { results := [.lit (.bool true)], args := [d] }
  | _ => none }
def fnExactFormatGraphRow : OpenClaim := { program := "ytfjmbnlnkmabmaa", sum := "2165ded12f5c85f2482ffaff1b7cd11b86e9116a8899dcc2d1556013608e4879", func := "loop.example/g02078/laws.FnExactFormatGraph", spec := "fnExactFormatGraph", apart := false }
def FnExactFormatGraphSaid : Prop := fnExactFormatGraphRow.holds Try.pinned (OpenSpec.ofChange fnExactFormatGraphSpec)

/-- ITS FALSE NEIGHBOUR: 'it returns false'. Refute it at one input. -/
def fnExactFormatGraphWrong : ChangeSpec := { name := "fnExactFormatGraph", fn := fun _ => fun
  | [d] => { results := [.lit (.bool false)], args := [d] }
  | _ => none }
def FnExactFormatGraphWrongFalsely : Prop := fnExactFormatGraphRow.holds Try.pinned (OpenSpec.ofChange fnExactFormatGraphWrong)

/- THE SECOND FORM. 'bulk': how many values and letters a reading holds, each counted each time it is reached (what is shared counts as often as it is met; a slice's spare places count too). A statement '..UptoSaid' is the law's where the arguments, and the package variables that the reading takes, are together of bulk at most 1048576: NARROWER than '..Said'. Prove '..Said' where nothing that the law and all that it calls make is longer than what came in: it says more and counts as full. Else prove '..UptoSaid'. A law counts once. -/
mutual
def uptoBulk {H : Type} : DataW H → Nat
  | .lit (.string bytes) => bytes.length + 1
  | .lit _ => 1
  | .nil => 1
  | .ptr d => uptoBulk d + 1
  | .slice elems spare => uptoBulkAll elems + uptoBulkAll spare + 1
  | .agg parts => uptoBulkAll parts + 1
  | .iface _ d => uptoBulk d + 1
  | .map entries => uptoBulkEntries entries + 1
  | .held _ => 1
def uptoBulkAll {H : Type} : List (DataW H) → Nat
  | [] => 0
  | d :: r => uptoBulk d + uptoBulkAll r
def uptoBulkEntries {H : Type} : List (Lit × DataW H) → Nat
  | [] => 0
  | x :: r => uptoBulkEntry x + uptoBulkEntries r
def uptoBulkEntry {H : Type} : Lit × DataW H → Nat
  | (.string bytes, d) => bytes.length + uptoBulk d + 1
  | (_, d) => uptoBulk d + 1
 end
def uptoSmall : (H : Type) → List (DataW H) → Bool := fun _ ds => decide (uptoBulkAll ds ≤ 1048576)
def OpenSpec.upto (s : _root_.Go.ChangeSpec) : _root_.Go.OpenSpec := { _root_.Go.OpenSpec.ofChange s with cond := some uptoSmall }

/-- 'laws.FnExactCountBar', WHERE WHAT IT READS IS OF BULK AT MOST 1048576: true; the input reads as it did. -/
def fnExactCountBarUptoRow : OpenClaim := { program := "ytfjmbnlnkmabmaa", sum := "2165ded12f5c85f2482ffaff1b7cd11b86e9116a8899dcc2d1556013608e4879", func := "loop.example/g02078/laws.FnExactCountBar", spec := "fnExactCountBar", apart := false, narrowed := true }
def FnExactCountBarUptoSaid : Prop := fnExactCountBarUptoRow.holds Try.pinned (OpenSpec.upto fnExactCountBarSpec)

/-- 'laws.FnExactDegreeOf', WHERE WHAT IT READS IS OF BULK AT MOST 1048576: true; the input reads as it did. -/
def fnExactDegreeOfUptoRow : OpenClaim := { program := "ytfjmbnlnkmabmaa", sum := "2165ded12f5c85f2482ffaff1b7cd11b86e9116a8899dcc2d1556013608e4879", func := "loop.example/g02078/laws.FnExactDegreeOf", spec := "fnExactDegreeOf", apart := false, narrowed := true }
def FnExactDegreeOfUptoSaid : Prop := fnExactDegreeOfUptoRow.holds Try.pinned (OpenSpec.upto fnExactDegreeOfSpec)

/-- 'laws.FnExactEqualGraphs', WHERE WHAT IT READS IS OF BULK AT MOST 1048576: true; the input reads as it did. -/
def fnExactEqualGraphsUptoRow : OpenClaim := { program := "ytfjmbnlnkmabmaa", sum := "2165ded12f5c85f2482ffaff1b7cd11b86e9116a8899dcc2d1556013608e4879", func := "loop.example/g02078/laws.FnExactEqualGraphs", spec := "fnExactEqualGraphs", apart := false, narrowed := true }
def FnExactEqualGraphsUptoSaid : Prop := fnExactEqualGraphsUptoRow.holds Try.pinned (OpenSpec.upto fnExactEqualGraphsSpec)

/-- 'laws.FnExactCompleteGraph', WHERE WHAT IT READS IS OF BULK AT MOST 1048576: true; the input reads as it did. -/
def fnExactCompleteGraphUptoRow : OpenClaim := { program := "ytfjmbnlnkmabmaa", sum := "2165ded12f5c85f2482ffaff1b7cd11b86e9116a8899dcc2d1556013608e4879", func := "loop.example/g02078/laws.FnExactCompleteGraph", spec := "fnExactCompleteGraph", apart := false, narrowed := true }
def FnExactCompleteGraphUptoSaid : Prop := fnExactCompleteGraphUptoRow.holds Try.pinned (OpenSpec.upto fnExactCompleteGraphSpec)

/-- 'laws.FnExactIsGraph', WHERE WHAT IT READS IS OF BULK AT MOST 1048576: true; the input reads as it did. -/
def fnExactIsGraphUptoRow : OpenClaim := { program := "ytfjmbnlnkmabmaa", sum := "2165ded12f5c85f2482ffaff1b7cd11b86e9116a8899dcc2d1556013608e4879", func := "loop.example/g02078/laws.FnExactIsGraph", spec := "fnExactIsGraph", apart := false, narrowed := true }
def FnExactIsGraphUptoSaid : Prop := fnExactIsGraphUptoRow.holds Try.pinned (OpenSpec.upto fnExactIsGraphSpec)

/-- 'laws.FnExactCountFreedom', WHERE WHAT IT READS IS OF BULK AT MOST 1048576: true; the input reads as it did. -/
def fnExactCountFreedomUptoRow : OpenClaim := { program := "ytfjmbnlnkmabmaa", sum := "2165ded12f5c85f2482ffaff1b7cd11b86e9116a8899dcc2d1556013608e4879", func := "loop.example/g02078/laws.FnExactCountFreedom", spec := "fnExactCountFreedom", apart := false, narrowed := true }
def FnExactCountFreedomUptoSaid : Prop := fnExactCountFreedomUptoRow.holds Try.pinned (OpenSpec.upto fnExactCountFreedomSpec)

/-- 'laws.FnExactRemoveBar', WHERE WHAT IT READS IS OF BULK AT MOST 1048576: true; the input reads as it did. -/
def fnExactRemoveBarUptoRow : OpenClaim := { program := "ytfjmbnlnkmabmaa", sum := "2165ded12f5c85f2482ffaff1b7cd11b86e9116a8899dcc2d1556013608e4879", func := "loop.example/g02078/laws.FnExactRemoveBar", spec := "fnExactRemoveBar", apart := false, narrowed := true }
def FnExactRemoveBarUptoSaid : Prop := fnExactRemoveBarUptoRow.holds Try.pinned (OpenSpec.upto fnExactRemoveBarSpec)

/-- 'laws.FnExactOnlyBars', WHERE WHAT IT READS IS OF BULK AT MOST 1048576: true; the input reads as it did. -/
def fnExactOnlyBarsUptoRow : OpenClaim := { program := "ytfjmbnlnkmabmaa", sum := "2165ded12f5c85f2482ffaff1b7cd11b86e9116a8899dcc2d1556013608e4879", func := "loop.example/g02078/laws.FnExactOnlyBars", spec := "fnExactOnlyBars", apart := false, narrowed := true }
def FnExactOnlyBarsUptoSaid : Prop := fnExactOnlyBarsUptoRow.holds Try.pinned (OpenSpec.upto fnExactOnlyBarsSpec)

/-- 'laws.FnExactFormatSets', WHERE WHAT IT READS IS OF BULK AT MOST 1048576: true; the input reads as it did. -/
def fnExactFormatSetsUptoRow : OpenClaim := { program := "ytfjmbnlnkmabmaa", sum := "2165ded12f5c85f2482ffaff1b7cd11b86e9116a8899dcc2d1556013608e4879", func := "loop.example/g02078/laws.FnExactFormatSets", spec := "fnExactFormatSets", apart := false, narrowed := true }
def FnExactFormatSetsUptoSaid : Prop := fnExactFormatSetsUptoRow.holds Try.pinned (OpenSpec.upto fnExactFormatSetsSpec)

/-- 'laws.FnExactFormatGraph', WHERE WHAT IT READS IS OF BULK AT MOST 1048576: true; the input reads as it did. -/
def fnExactFormatGraphUptoRow : OpenClaim := { program := "ytfjmbnlnkmabmaa", sum := "2165ded12f5c85f2482ffaff1b7cd11b86e9116a8899dcc2d1556013608e4879", func := "loop.example/g02078/laws.FnExactFormatGraph", spec := "fnExactFormatGraph", apart := false, narrowed := true }
def FnExactFormatGraphUptoSaid : Prop := fnExactFormatGraphUptoRow.holds Try.pinned (OpenSpec.upto fnExactFormatGraphSpec)

end Rows
end Go.Proofs.Ytfjmbnlnkmabmaa
