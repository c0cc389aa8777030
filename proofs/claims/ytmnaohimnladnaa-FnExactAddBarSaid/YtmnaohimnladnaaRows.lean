/-
  No cell of these rows narrows 'for every input' (looked for: loops, veiled, ifaces, maps, wideKeys, modest, calm, conditions, laid).
  DERIVED. THE GIVEN ROWS OF THIS SEAT. 8 by the template 'for every input the law returns true; each argument reads behind the call as it read before'; 0 by the template 'total and deterministic' (their statements: YtmnaohimnladnaaTotals.lean).
  GIVEN WITH THE SEED: the statements are not yours to turn. If you find one false, say at which input.
  Laid BY PROGRAM, IN A SANDBOX (cutbox-rows.mjs): the forced cells as the released guide's own fill.sh prints them over the translation 40a6059f346d5802… (all of the seat's roots in one cut). By AI agents, Wed Nov 11 2026. No macro, syntax, notation, axiom, sorry.
-/
import Derived.Test.YtmnaohimnladnaaChecked
import GoSem.Claim
import GoSem.ClaimJoined
import GoSem.ClaimMapViews
import Derived.JoinedTies
import Derived.KernelRfl
namespace Go.Proofs.Ytmnaohimnladnaa
/- THE CELL 'sum', in the pinned program and in every row, IS THE sha256 OF THE DUMP (.gsa) THAT YtmnaohimnladnaaProg.lean LOADS. Nothing in Lean hashes anything: it is a label: what it is worth is what the hold of that sum in a sandbox is worth. -/
noncomputable def Try.pinned : Pinned := { name := "ytmnaohimnladnaa", sum := "40a6059f346d5802d4868330d06c890428717b1bdae716b47f3fd9638fcef944", checked := Try.checked }
namespace Rows
def none {H : Type} : Left H := { results := [], args := [] }

/-- 'laws.FnExactRankOfSet': WHATEVER THE INPUT: true; the input reads as it did. -/
def fnExactRankOfSetSpec : ChangeSpec := { name := "fnExactRankOfSet", fn := fun _ => fun
  | [d1, d2, d3, d4] => { results := [.lit (.bool true)], args := [d1, d2, d3, d4] }
  | _ => none }
def fnExactRankOfSetRow : OpenClaim := { program := "ytmnaohimnladnaa", sum := "40a6059f346d5802d4868330d06c890428717b1bdae716b47f3fd9638fcef944", func := "loop.example/g02078/laws.FnExactRankOfSet", spec := "fnExactRankOfSet", apart := false }
def FnExactRankOfSetSaid : Prop := fnExactRankOfSetRow.holds Try.pinned (OpenSpec.ofChange fnExactRankOfSetSpec)

/-- ITS FALSE NEIGHBOUR: 'it returns false'. Refute it at one input. -/
def fnExactRankOfSetWrong : ChangeSpec := { name := "fnExactRankOfSet", fn := fun _ => fun
  | [d1, d2, d3, d4] => { results := [.lit (.bool false)], args := [d1, d2, d3, d4] }
  | _ => none }
def FnExactRankOfSetWrongFalsely : Prop := fnExactRankOfSetRow.holds Try.pinned (OpenSpec.ofChange fnExactRankOfSetWrong)

/-- 'laws.FnExactPlaceBar': WHATEVER THE INPUT: true; the input reads as it did. -/
def fnExactPlaceBarSpec : ChangeSpec := { name := "fnExactPlaceBar", fn := fun _ => fun
  | [d1, d2, d3, d4, d5] => { results := [.lit (.bool true)], args := [d1, d2, d3, d4, d5] }
  | _ => none }
def fnExactPlaceBarRow : OpenClaim := { program := "ytmnaohimnladnaa", sum := "40a6059f346d5802d4868330d06c890428717b1bdae716b47f3fd9638fcef944", func := "loop.example/g02078/laws.FnExactPlaceBar", spec := "fnExactPlaceBar", apart := false }
def FnExactPlaceBarSaid : Prop := fnExactPlaceBarRow.holds Try.pinned (OpenSpec.ofChange fnExactPlaceBarSpec)

/-- ITS FALSE NEIGHBOUR: 'it returns false'. Refute it at one input. -/
def fnExactPlaceBarWrong : ChangeSpec := { name := "fnExactPlaceBar", fn := fun _ => fun
  | [d1, d2, d3, d4, d5] => { results := [.lit (.bool false)], args := [d1, d2, d3, d4, d5] }
  | _ => none }
def FnExactPlaceBarWrongFalsely : Prop := fnExactPlaceBarRow.holds Try.pinned (OpenSpec.ofChange fnExactPlaceBarWrong)

/-- 'laws.FnExactBridgesOf': WHATEVER THE INPUT: true; the input reads as it did. -/
def fnExactBridgesOfSpec : ChangeSpec := { name := "fnExactBridgesOf", fn := fun _ => fun
  | [d1, d2, d3] => { results := [.lit (.bool true)], args := [d1, d2, d3] }
  | _ => none }
def fnExactBridgesOfRow : OpenClaim := { program := "ytmnaohimnladnaa", sum := "40a6059f346d5802d4868330d06c890428717b1bdae716b47f3fd9638fcef944", func := "loop.example/g02078/laws.FnExactBridgesOf", spec := "fnExactBridgesOf", apart := false }
def FnExactBridgesOfSaid : Prop := fnExactBridgesOfRow.holds Try.pinned (OpenSpec.ofChange fnExactBridgesOfSpec)

/-- ITS FALSE NEIGHBOUR: 'it returns false'. Refute it at one input. -/
def fnExactBridgesOfWrong : ChangeSpec := { name := "fnExactBridgesOf", fn := fun _ => fun
  | [d1, d2, d3] => { results := [.lit (.bool false)], args := [d1, d2, d3] }
  | _ => none }
def FnExactBridgesOfWrongFalsely : Prop := fnExactBridgesOfRow.holds Try.pinned (OpenSpec.ofChange fnExactBridgesOfWrong)

/-- 'laws.FnExactIsIndependent': WHATEVER THE INPUT: true; the input reads as it did. -/
def fnExactIsIndependentSpec : ChangeSpec := { name := "fnExactIsIndependent", fn := fun _ => fun
  | [d1, d2, d3, d4] => { results := [.lit (.bool true)], args := [d1, d2, d3, d4] }
  | _ => none }
def fnExactIsIndependentRow : OpenClaim := { program := "ytmnaohimnladnaa", sum := "40a6059f346d5802d4868330d06c890428717b1bdae716b47f3fd9638fcef944", func := "loop.example/g02078/laws.FnExactIsIndependent", spec := "fnExactIsIndependent", apart := false }
def FnExactIsIndependentSaid : Prop := fnExactIsIndependentRow.holds Try.pinned (OpenSpec.ofChange fnExactIsIndependentSpec)

/-- ITS FALSE NEIGHBOUR: 'it returns false'. Refute it at one input. -/
def fnExactIsIndependentWrong : ChangeSpec := { name := "fnExactIsIndependent", fn := fun _ => fun
  | [d1, d2, d3, d4] => { results := [.lit (.bool false)], args := [d1, d2, d3, d4] }
  | _ => none }
def FnExactIsIndependentWrongFalsely : Prop := fnExactIsIndependentRow.holds Try.pinned (OpenSpec.ofChange fnExactIsIndependentWrong)

/-- 'laws.FnExactIsCircuit': WHATEVER THE INPUT: true; the input reads as it did. -/
def fnExactIsCircuitSpec : ChangeSpec := { name := "fnExactIsCircuit", fn := fun _ => fun
  | [d1, d2, d3, d4] => { results := [.lit (.bool true)], args := [d1, d2, d3, d4] }
  | _ => none }
def fnExactIsCircuitRow : OpenClaim := { program := "ytmnaohimnladnaa", sum := "40a6059f346d5802d4868330d06c890428717b1bdae716b47f3fd9638fcef944", func := "loop.example/g02078/laws.FnExactIsCircuit", spec := "fnExactIsCircuit", apart := false }
def FnExactIsCircuitSaid : Prop := fnExactIsCircuitRow.holds Try.pinned (OpenSpec.ofChange fnExactIsCircuitSpec)

/-- ITS FALSE NEIGHBOUR: 'it returns false'. Refute it at one input. -/
def fnExactIsCircuitWrong : ChangeSpec := { name := "fnExactIsCircuit", fn := fun _ => fun
  | [d1, d2, d3, d4] => { results := [.lit (.bool false)], args := [d1, d2, d3, d4] }
  | _ => none }
def FnExactIsCircuitWrongFalsely : Prop := fnExactIsCircuitRow.holds Try.pinned (OpenSpec.ofChange fnExactIsCircuitWrong)

/-- 'laws.FnExactClosureOf': WHATEVER THE INPUT: true; the input reads as it did. -/
def fnExactClosureOfSpec : ChangeSpec := { name := "fnExactClosureOf", fn := fun _ => fun
  | [d1, d2, d3, d4] => { results := [.lit (.bool true)], args := [d1, d2, d3, d4] }
  | _ => none }
def fnExactClosureOfRow : OpenClaim := { program := "ytmnaohimnladnaa", sum := "40a6059f346d5802d4868330d06c890428717b1bdae716b47f3fd9638fcef944", func := "loop.example/g02078/laws.FnExactClosureOf", spec := "fnExactClosureOf", apart := false }
def FnExactClosureOfSaid : Prop := fnExactClosureOfRow.holds Try.pinned (OpenSpec.ofChange fnExactClosureOfSpec)

/-- ITS FALSE NEIGHBOUR: 'it returns false'. Refute it at one input. -/
def fnExactClosureOfWrong : ChangeSpec := { name := "fnExactClosureOf", fn := fun _ => fun
  | [d1, d2, d3, d4] => { results := [.lit (.bool false)], args := [d1, d2, d3, d4] }
  | _ => none }
def FnExactClosureOfWrongFalsely : Prop := fnExactClosureOfRow.holds Try.pinned (OpenSpec.ofChange fnExactClosureOfWrong)

/-- 'laws.FnExactAddBar': WHATEVER THE INPUT: true; the input reads as it did. -/
def fnExactAddBarSpec : ChangeSpec := { name := "fnExactAddBar", fn := fun _ => fun
  | [d1, d2, d3] => { results := [.lit (.bool true)], args := [d1, d2, d3] }
  | _ => none }
def fnExactAddBarRow : OpenClaim := { program := "ytmnaohimnladnaa", sum := "40a6059f346d5802d4868330d06c890428717b1bdae716b47f3fd9638fcef944", func := "loop.example/g02078/laws.FnExactAddBar", spec := "fnExactAddBar", unfollowed := true, recurses := true, apart := false }
def FnExactAddBarSaid : Prop := fnExactAddBarRow.holds Try.pinned (OpenSpec.ofChange fnExactAddBarSpec)

/-- ITS FALSE NEIGHBOUR: 'it returns false'. Refute it at one input. -/
def fnExactAddBarWrong : ChangeSpec := { name := "fnExactAddBar", fn := fun _ => fun
  | [d1, d2, d3] => { results := [.lit (.bool false)], args := [d1, d2, d3] }
  | _ => none }
def FnExactAddBarWrongFalsely : Prop := fnExactAddBarRow.holds Try.pinned (OpenSpec.ofChange fnExactAddBarWrong)

/-- 'laws.FnExactCircuitOf': WHATEVER THE INPUT: true; the input reads as it did. -/
def fnExactCircuitOfSpec : ChangeSpec := { name := "fnExactCircuitOf", fn := fun _ => fun
  | [d1, d2, d3, d4] => { results := [.lit (.bool true)], args := [d1, d2, d3, d4] }
  | _ => none }
def fnExactCircuitOfRow : OpenClaim := { program := "ytmnaohimnladnaa", sum := "40a6059f346d5802d4868330d06c890428717b1bdae716b47f3fd9638fcef944", func := "loop.example/g02078/laws.FnExactCircuitOf", spec := "fnExactCircuitOf", apart := false }
def FnExactCircuitOfSaid : Prop := fnExactCircuitOfRow.holds Try.pinned (OpenSpec.ofChange fnExactCircuitOfSpec)

/-- ITS FALSE NEIGHBOUR: 'it returns false'. Refute it at one input. -/
def fnExactCircuitOfWrong : ChangeSpec := { name := "fnExactCircuitOf", fn := fun _ => fun
  | [d1, d2, d3, d4] => { results := [.lit (.bool false)], args := [d1, d2, d3, d4] }
  | _ => none }
def FnExactCircuitOfWrongFalsely : Prop := fnExactCircuitOfRow.holds Try.pinned (OpenSpec.ofChange fnExactCircuitOfWrong)

/- THE SECOND FORM. 'bulk': how many values and letters a reading holds, each counted each time it is reached (what is shared counts as often as it is met; a slice's spare places count too). A statement '..UptoSaid' is the law's where the arguments, and the package variables that the reading takes, are together of bulk at most 1048576: NARROWER than '..Said'. Prove '..Said' where nothing that the law and all that it calls make is longer than what came in: it says more and counts as full. Else prove '..UptoSaid'. A law counts once. -/
mutual
def uptoBulk {H : Type} : DataW H → Nat
  | .lit (.string bytes) => bytes.length + 1
  | .lit _ => 1
  | .nil => 1
  | .ptr d => uptoBulk d + 1
  | .slice elems spare => uptoBulkAll elems + uptoBulkAll spare + 1
  | .agg parts => uptoBulkAll parts + 1
  | .iface _ d => uptoBulk d + 1
  | .map entries => uptoBulkEntries entries + 1
  | .held _ => 1
def uptoBulkAll {H : Type} : List (DataW H) → Nat
  | [] => 0
  | d :: r => uptoBulk d + uptoBulkAll r
def uptoBulkEntries {H : Type} : List (Lit × DataW H) → Nat
  | [] => 0
  | x :: r => uptoBulkEntry x + uptoBulkEntries r
def uptoBulkEntry {H : Type} : Lit × DataW H → Nat
  | (.string bytes, d) => bytes.length + uptoBulk d + 1
  | (_, d) => uptoBulk d + 1
 end
def uptoSmall : (H : Type) → List (DataW H) → Bool := fun _ ds => decide (uptoBulkAll ds ≤ 1048576)
def OpenSpec.upto (s : _root_.Go.ChangeSpec) : _root_.Go.OpenSpec := { _root_.Go.OpenSpec.ofChange s with cond := some uptoSmall }

/-- 'laws.FnExactRankOfSet', WHERE WHAT IT READS IS OF BULK AT MOST 1048576: true; the input reads as it did. -/
def fnExactRankOfSetUptoRow : OpenClaim := { program := "ytmnaohimnladnaa", sum := "40a6059f346d5802d4868330d06c890428717b1bdae716b47f3fd9638fcef944", func := "loop.example/g02078/laws.FnExactRankOfSet", spec := "fnExactRankOfSet", apart := false, narrowed := true }
def FnExactRankOfSetUptoSaid : Prop := fnExactRankOfSetUptoRow.holds Try.pinned (OpenSpec.upto fnExactRankOfSetSpec)

/-- 'laws.FnExactPlaceBar', WHERE WHAT IT READS IS OF BULK AT MOST 1048576: true; the input reads as it did. -/
def fnExactPlaceBarUptoRow : OpenClaim := { program := "ytmnaohimnladnaa", sum := "40a6059f346d5802d4868330d06c890428717b1bdae716b47f3fd9638fcef944", func := "loop.example/g02078/laws.FnExactPlaceBar", spec := "fnExactPlaceBar", apart := false, narrowed := true }
def FnExactPlaceBarUptoSaid : Prop := fnExactPlaceBarUptoRow.holds Try.pinned (OpenSpec.upto fnExactPlaceBarSpec)

/-- 'laws.FnExactBridgesOf', WHERE WHAT IT READS IS OF BULK AT MOST 1048576: true; the input reads as it did. -/
def fnExactBridgesOfUptoRow : OpenClaim := { program := "ytmnaohimnladnaa", sum := "40a6059f346d5802d4868330d06c890428717b1bdae716b47f3fd9638fcef944", func := "loop.example/g02078/laws.FnExactBridgesOf", spec := "fnExactBridgesOf", apart := false, narrowed := true }
def FnExactBridgesOfUptoSaid : Prop := fnExactBridgesOfUptoRow.holds Try.pinned (OpenSpec.upto fnExactBridgesOfSpec)

/-- 'laws.FnExactIsIndependent', WHERE WHAT IT READS IS OF BULK AT MOST 1048576: true; the input reads as it did. -/
def fnExactIsIndependentUptoRow : OpenClaim := { program := "ytmnaohimnladnaa", sum := "40a6059f346d5802d4868330d06c890428717b1bdae716b47f3fd9638fcef944", func := "loop.example/g02078/laws.FnExactIsIndependent", spec := "fnExactIsIndependent", apart := false, narrowed := true }
def FnExactIsIndependentUptoSaid : Prop := fnExactIsIndependentUptoRow.holds Try.pinned (OpenSpec.upto fnExactIsIndependentSpec)

/-- 'laws.FnExactIsCircuit', WHERE WHAT IT READS IS OF BULK AT MOST 1048576: true; the input reads as it did. -/
def fnExactIsCircuitUptoRow : OpenClaim := { program := "ytmnaohimnladnaa", sum := "40a6059f346d5802d4868330d06c890428717b1bdae716b47f3fd9638fcef944", func := "loop.example/g02078/laws.FnExactIsCircuit", spec := "fnExactIsCircuit", apart := false, narrowed := true }
def FnExactIsCircuitUptoSaid : Prop := fnExactIsCircuitUptoRow.holds Try.pinned (OpenSpec.upto fnExactIsCircuitSpec)

/-- 'laws.FnExactClosureOf', WHERE WHAT IT READS IS OF BULK AT MOST 1048576: true; the input reads as it did. -/
def fnExactClosureOfUptoRow : OpenClaim := { program := "ytmnaohimnladnaa", sum := "40a6059f346d5802d4868330d06c890428717b1bdae716b47f3fd9638fcef944", func := "loop.example/g02078/laws.FnExactClosureOf", spec := "fnExactClosureOf", apart := false, narrowed := true }
def FnExactClosureOfUptoSaid : Prop := fnExactClosureOfUptoRow.holds Try.pinned (OpenSpec.upto fnExactClosureOfSpec)

/-- 'laws.FnExactAddBar', WHERE WHAT IT READS IS OF BULK AT MOST 1048576: true; the input reads as it did. -/
def fnExactAddBarUptoRow : OpenClaim := { program := "ytmnaohimnladnaa", sum := "40a6059f346d5802d4868330d06c890428717b1bdae716b47f3fd9638fcef944", func := "loop.example/g02078/laws.FnExactAddBar", spec := "fnExactAddBar", unfollowed := true, recurses := true, apart := false, narrowed := true }
def FnExactAddBarUptoSaid : Prop := fnExactAddBarUptoRow.holds Try.pinned (OpenSpec.upto fnExactAddBarSpec)

/-- 'laws.FnExactCircuitOf', WHERE WHAT IT READS IS OF BULK AT MOST 1048576: true; the input reads as it did. -/
def fnExactCircuitOfUptoRow : OpenClaim := { program := "ytmnaohimnladnaa", sum := "40a6059f346d5802d4868330d06c890428717b1bdae716b47f3fd9638fcef944", func := "loop.example/g02078/laws.FnExactCircuitOf", spec := "fnExactCircuitOf", apart := false, narrowed := true }
def FnExactCircuitOfUptoSaid : Prop := fnExactCircuitOfUptoRow.holds Try.pinned (OpenSpec.upto fnExactCircuitOfSpec)

end Rows
end Go.Proofs.Ytmnaohimnladnaa
