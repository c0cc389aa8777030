/-
  No cell of these rows narrows 'for every input' (looked for: loops, veiled, ifaces, maps, wideKeys, modest, calm, conditions, laid).
  DERIVED. THE GIVEN ROWS OF THIS SEAT. 10 by the template 'for every input the law returns true; each argument reads behind the call as it read before'; 0 by the template 'total and deterministic' (their statements: YteccnekfjamioaaTotals.lean).
  GIVEN WITH THE SEED: the statements are not yours to turn. If you find one false, say at which input.
  Laid BY PROGRAM, IN A SANDBOX (cutbox-rows.mjs): the forced cells as the released guide's own fill.sh prints them over the translation eaea4ea8bb3efe21… (all of the seat's roots in one cut). By AI agents, Wed Nov 11 2026. No macro, syntax, notation, axiom, sorry.
-/
import Derived.Test.YteccnekfjamioaaChecked
import GoSem.Claim
import GoSem.ClaimJoined
import GoSem.ClaimMapViews
import Derived.JoinedTies
import Derived.KernelRfl
namespace Go.Proofs.Yteccnekfjamioaa
/- THE CELL 'sum', in the pinned program and in every row, IS THE sha256 OF THE DUMP (.gsa) THAT YteccnekfjamioaaProg.lean LOADS. Nothing in Lean hashes anything: it is a label: what it is worth is what the hold of that sum in a sandbox is worth. -/
noncomputable def Try.pinned : Pinned := { name := "yteccnekfjamioaa", sum := "eaea4ea8bb3efe21e81d60561cf6c876fa0b5033e264d9d7ec7ebebfbe2293cc", checked := Try.checked }
namespace Rows
def none {H : Type} : Left H := { results := [], args := [] }

/-- 'laws.FnExactFreePebbles': WHATEVER THE INPUT: true; the input reads as it did. -/
def fnExactFreePebblesSpec : ChangeSpec := { name := "fnExactFreePebbles", fn := fun _ => fun
  | [d] => { results := [.lit (.bool true)], args := [d] }
  | _ => none }
def fnExactFreePebblesRow : OpenClaim := { program := "yteccnekfjamioaa", sum := "eaea4ea8bb3efe21e81d60561cf6c876fa0b5033e264d9d7ec7ebebfbe2293cc", func := "loop.example/g02078/laws.FnExactFreePebbles", spec := "fnExactFreePebbles", apart := false }
def FnExactFreePebblesSaid : Prop := fnExactFreePebblesRow.holds Try.pinned (OpenSpec.ofChange fnExactFreePebblesSpec)

/-- ITS FALSE NEIGHBOUR: 'it returns false'. Refute it at one input. -/
def fnExactFreePebblesWrong : ChangeSpec := { name := "fnExactFreePebbles", fn := fun _ => fun
  | [d] => { results := [.lit (.bool false)], args := [d] }
  | _ => none }
def FnExactFreePebblesWrongFalsely : Prop := fnExactFreePebblesRow.holds Try.pinned (OpenSpec.ofChange fnExactFreePebblesWrong)

/-- 'laws.FnExactSpannedBars': WHATEVER THE INPUT: true; the input reads as it did. -/
def fnExactSpannedBarsSpec : ChangeSpec := { name := "fnExactSpannedBars", fn := fun _ => fun
  | [d1, d2] => { results := [.lit (.bool true)], args := [d1, d2] }
  | _ => none }
def fnExactSpannedBarsRow : OpenClaim := { program := "yteccnekfjamioaa", sum := "eaea4ea8bb3efe21e81d60561cf6c876fa0b5033e264d9d7ec7ebebfbe2293cc", func := "loop.example/g02078/laws.FnExactSpannedBars", spec := "fnExactSpannedBars", apart := false }
def FnExactSpannedBarsSaid : Prop := fnExactSpannedBarsRow.holds Try.pinned (OpenSpec.ofChange fnExactSpannedBarsSpec)

/-- ITS FALSE NEIGHBOUR: 'it returns false'. Refute it at one input. -/
def fnExactSpannedBarsWrong : ChangeSpec := { name := "fnExactSpannedBars", fn := fun _ => fun
  | [d1, d2] => { results := [.lit (.bool false)], args := [d1, d2] }
  | _ => none }
def FnExactSpannedBarsWrongFalsely : Prop := fnExactSpannedBarsRow.holds Try.pinned (OpenSpec.ofChange fnExactSpannedBarsWrong)

/-- 'laws.FnExactIsConnected': WHATEVER THE INPUT: true; the input reads as it did. -/
def fnExactIsConnectedSpec : ChangeSpec := { name := "fnExactIsConnected", fn := fun _ => fun
  | [d] => { results := [.lit (.bool true)], args := [d] }
  | _ => none }
def fnExactIsConnectedRow : OpenClaim := { program := "yteccnekfjamioaa", sum := "eaea4ea8bb3efe21e81d60561cf6c876fa0b5033e264d9d7ec7ebebfbe2293cc", func := "loop.example/g02078/laws.FnExactIsConnected", spec := "fnExactIsConnected", apart := false }
def FnExactIsConnectedSaid : Prop := fnExactIsConnectedRow.holds Try.pinned (OpenSpec.ofChange fnExactIsConnectedSpec)

/-- ITS FALSE NEIGHBOUR: 'it returns false'. Refute it at one input. -/
def fnExactIsConnectedWrong : ChangeSpec := { name := "fnExactIsConnected", fn := fun _ => fun
  | [d] => { results := [.lit (.bool false)], args := [d] }
  | _ => none }
def FnExactIsConnectedWrongFalsely : Prop := fnExactIsConnectedRow.holds Try.pinned (OpenSpec.ofChange fnExactIsConnectedWrong)

/-- 'laws.FnExactIsSparse': WHATEVER THE INPUT: true; the input reads as it did. -/
def fnExactIsSparseSpec : ChangeSpec := { name := "fnExactIsSparse", fn := fun _ => fun
  | [d1, d2, d3] => { results := [.lit (.bool true)], args := [d1, d2, d3] }
  | _ => none }
def fnExactIsSparseRow : OpenClaim := { program := "yteccnekfjamioaa", sum := "eaea4ea8bb3efe21e81d60561cf6c876fa0b5033e264d9d7ec7ebebfbe2293cc", func := "loop.example/g02078/laws.FnExactIsSparse", spec := "fnExactIsSparse", apart := false }
def FnExactIsSparseSaid : Prop := fnExactIsSparseRow.holds Try.pinned (OpenSpec.ofChange fnExactIsSparseSpec)

/-- ITS FALSE NEIGHBOUR: 'it returns false'. Refute it at one input. -/
def fnExactIsSparseWrong : ChangeSpec := { name := "fnExactIsSparse", fn := fun _ => fun
  | [d1, d2, d3] => { results := [.lit (.bool false)], args := [d1, d2, d3] }
  | _ => none }
def FnExactIsSparseWrongFalsely : Prop := fnExactIsSparseRow.holds Try.pinned (OpenSpec.ofChange fnExactIsSparseWrong)

/-- 'laws.FnExactIsTight': WHATEVER THE INPUT: true; the input reads as it did. -/
def fnExactIsTightSpec : ChangeSpec := { name := "fnExactIsTight", fn := fun _ => fun
  | [d1, d2, d3] => { results := [.lit (.bool true)], args := [d1, d2, d3] }
  | _ => none }
def fnExactIsTightRow : OpenClaim := { program := "yteccnekfjamioaa", sum := "eaea4ea8bb3efe21e81d60561cf6c876fa0b5033e264d9d7ec7ebebfbe2293cc", func := "loop.example/g02078/laws.FnExactIsTight", spec := "fnExactIsTight", apart := false }
def FnExactIsTightSaid : Prop := fnExactIsTightRow.holds Try.pinned (OpenSpec.ofChange fnExactIsTightSpec)

/-- ITS FALSE NEIGHBOUR: 'it returns false'. Refute it at one input. -/
def fnExactIsTightWrong : ChangeSpec := { name := "fnExactIsTight", fn := fun _ => fun
  | [d1, d2, d3] => { results := [.lit (.bool false)], args := [d1, d2, d3] }
  | _ => none }
def FnExactIsTightWrongFalsely : Prop := fnExactIsTightRow.holds Try.pinned (OpenSpec.ofChange fnExactIsTightWrong)

/-- 'laws.FnExactReachOf': WHATEVER THE INPUT: true; the input reads as it did. -/
def fnExactReachOfSpec : ChangeSpec := { name := "fnExactReachOf", fn := fun _ => fun
  | [d1, d2] => { results := [.lit (.bool true)], args := [d1, d2] }
  | _ => none }
def fnExactReachOfRow : OpenClaim := { program := "yteccnekfjamioaa", sum := "eaea4ea8bb3efe21e81d60561cf6c876fa0b5033e264d9d7ec7ebebfbe2293cc", func := "loop.example/g02078/laws.FnExactReachOf", spec := "fnExactReachOf", apart := false }
def FnExactReachOfSaid : Prop := fnExactReachOfRow.holds Try.pinned (OpenSpec.ofChange fnExactReachOfSpec)

/-- ITS FALSE NEIGHBOUR: 'it returns false'. Refute it at one input. -/
def fnExactReachOfWrong : ChangeSpec := { name := "fnExactReachOf", fn := fun _ => fun
  | [d1, d2] => { results := [.lit (.bool false)], args := [d1, d2] }
  | _ => none }
def FnExactReachOfWrongFalsely : Prop := fnExactReachOfRow.holds Try.pinned (OpenSpec.ofChange fnExactReachOfWrong)

/-- 'laws.FnExactNewPebbles': WHATEVER THE INPUT: true; the input reads as it did. -/
def fnExactNewPebblesSpec : ChangeSpec := { name := "fnExactNewPebbles", fn := fun _ => fun
  | [d1, d2] => { results := [.lit (.bool true)], args := [d1, d2] }
  | _ => none }
def fnExactNewPebblesRow : OpenClaim := { program := "yteccnekfjamioaa", sum := "eaea4ea8bb3efe21e81d60561cf6c876fa0b5033e264d9d7ec7ebebfbe2293cc", func := "loop.example/g02078/laws.FnExactNewPebbles", spec := "fnExactNewPebbles", apart := false }
def FnExactNewPebblesSaid : Prop := fnExactNewPebblesRow.holds Try.pinned (OpenSpec.ofChange fnExactNewPebblesSpec)

/-- ITS FALSE NEIGHBOUR: 'it returns false'. Refute it at one input. -/
def fnExactNewPebblesWrong : ChangeSpec := { name := "fnExactNewPebbles", fn := fun _ => fun
  | [d1, d2] => { results := [.lit (.bool false)], args := [d1, d2] }
  | _ => none }
def FnExactNewPebblesWrongFalsely : Prop := fnExactNewPebblesRow.holds Try.pinned (OpenSpec.ofChange fnExactNewPebblesWrong)

/-- 'laws.FnExactIsPebbles': WHATEVER THE INPUT: true; the input reads as it did. -/
def fnExactIsPebblesSpec : ChangeSpec := { name := "fnExactIsPebbles", fn := fun _ => fun
  | [d1, d2, d3] => { results := [.lit (.bool true)], args := [d1, d2, d3] }
  | _ => none }
def fnExactIsPebblesRow : OpenClaim := { program := "yteccnekfjamioaa", sum := "eaea4ea8bb3efe21e81d60561cf6c876fa0b5033e264d9d7ec7ebebfbe2293cc", func := "loop.example/g02078/laws.FnExactIsPebbles", spec := "fnExactIsPebbles", apart := false }
def FnExactIsPebblesSaid : Prop := fnExactIsPebblesRow.holds Try.pinned (OpenSpec.ofChange fnExactIsPebblesSpec)

/-- ITS FALSE NEIGHBOUR: 'it returns false'. Refute it at one input. -/
def fnExactIsPebblesWrong : ChangeSpec := { name := "fnExactIsPebbles", fn := fun _ => fun
  | [d1, d2, d3] => { results := [.lit (.bool false)], args := [d1, d2, d3] }
  | _ => none }
def FnExactIsPebblesWrongFalsely : Prop := fnExactIsPebblesRow.holds Try.pinned (OpenSpec.ofChange fnExactIsPebblesWrong)

/-- 'laws.FnExactOvercountedSet': WHATEVER THE INPUT: true; the input reads as it did. -/
def fnExactOvercountedSetSpec : ChangeSpec := { name := "fnExactOvercountedSet", fn := fun _ => fun
  | [d1, d2, d3] => { results := [.lit (.bool true)], args := [d1, d2, d3] }
  | _ => none }
def fnExactOvercountedSetRow : OpenClaim := { program := "yteccnekfjamioaa", sum := "eaea4ea8bb3efe21e81d60561cf6c876fa0b5033e264d9d7ec7ebebfbe2293cc", func := "loop.example/g02078/laws.FnExactOvercountedSet", spec := "fnExactOvercountedSet", apart := false }
def FnExactOvercountedSetSaid : Prop := fnExactOvercountedSetRow.holds Try.pinned (OpenSpec.ofChange fnExactOvercountedSetSpec)

/-- ITS FALSE NEIGHBOUR: 'it returns false'. Refute it at one input. -/
def fnExactOvercountedSetWrong : ChangeSpec := { name := "fnExactOvercountedSet", fn := fun _ => fun
  | [d1, d2, d3] => { results := [.lit (.bool false)], args := [d1, d2, d3] }
  | _ => none }
def FnExactOvercountedSetWrongFalsely : Prop := fnExactOvercountedSetRow.holds Try.pinned (OpenSpec.ofChange fnExactOvercountedSetWrong)

/-- 'laws.FnExactParseGraph': WHATEVER THE INPUT: true; the input reads as it did. -/
def fnExactParseGraphSpec : ChangeSpec := { name := "fnExactParseGraph", fn := fun _ => fun
  | [d] => { results := [.lit (.bool true)], args := [d] }
  | _ => none }
def fnExactParseGraphRow : OpenClaim := { program := "yteccnekfjamioaa", sum := "eaea4ea8bb3efe21e81d60561cf6c876fa0b5033e264d9d7ec7ebebfbe2293cc", func := "loop.example/g02078/laws.FnExactParseGraph", spec := "fnExactParseGraph", apart := false }
def FnExactParseGraphSaid : Prop := fnExactParseGraphRow.holds Try.pinned (OpenSpec.ofChange fnExactParseGraphSpec)

/-- ITS FALSE NEIGHBOUR: 'it returns false'. Refute it at one input. -/
def fnExactParseGraphWrong : ChangeSpec := { name := "fnExactParseGraph", fn := fun _ => fun
  | [d] => { results := [.lit (.bool false)], args := [d] }
  | _ => none }
def FnExactParseGraphWrongFalsely : Prop := fnExactParseGraphRow.holds Try.pinned (OpenSpec.ofChange fnExactParseGraphWrong)

/- THE SECOND FORM. 'bulk': how many values and letters a reading holds, each counted each time it is reached (what is shared counts as often as it is met; a slice's spare places count too). A statement '..UptoSaid' is the law's where the arguments, and the package variables that the reading takes, are together of bulk at most 1048576: NARROWER than '..Said'. Prove '..Said' where nothing that the law and all that it calls make is longer than what came in: it says more and counts as full. Else prove '..UptoSaid'. A law counts once. -/
mutual
def uptoBulk {H : Type} : DataW H → Nat
  | .lit (.string bytes) => bytes.length + 1
  | .lit _ => 1
  | .nil => 1
  | .ptr d => uptoBulk d + 1
  | .slice elems spare => uptoBulkAll elems + uptoBulkAll spare + 1
  | .agg parts => uptoBulkAll parts + 1
  | .iface _ d => uptoBulk d + 1
  | .map entries => uptoBulkEntries entries + 1
  | .held _ => 1
def uptoBulkAll {H : Type} : List (DataW H) → Nat
  | [] => 0
  | d :: r => uptoBulk d + uptoBulkAll r
def uptoBulkEntries {H : Type} : List (Lit × DataW H) → Nat
  | [] => 0
  | x :: r => uptoBulkEntry x + uptoBulkEntries r
def uptoBulkEntry {H : Type} : Lit × DataW H → Nat
  | (.string bytes, d) => bytes.length + uptoBulk d + 1
  | (_, d) => uptoBulk d + 1
 end
def uptoSmall : (H : Type) → List (DataW H) → Bool := fun _ ds => decide (uptoBulkAll ds ≤ 1048576)
def OpenSpec.upto (s : _root_.Go.ChangeSpec) : _root_.Go.OpenSpec := { _root_.Go.OpenSpec.ofChange s with cond := some uptoSmall }

/-- 'laws.FnExactFreePebbles', WHERE WHAT IT READS IS OF BULK AT MOST 1048576: true; the input reads as it did. -/
def fnExactFreePebblesUptoRow : OpenClaim := { program := "yteccnekfjamioaa", sum := "eaea4ea8bb3efe21e81d60561cf6c876fa0b5033e264d9d7ec7ebebfbe2293cc", func := "loop.example/g02078/laws.FnExactFreePebbles", spec := "fnExactFreePebbles", apart := false, narrowed := true }
def FnExactFreePebblesUptoSaid : Prop := fnExactFreePebblesUptoRow.holds Try.pinned (OpenSpec.upto fnExactFreePebblesSpec)

/-- 'laws.FnExactSpannedBars', WHERE WHAT IT READS IS OF BULK AT MOST 1048576: true; the input reads as it did. -/
def fnExactSpannedBarsUptoRow : OpenClaim := { program := "yteccnekfjamioaa", sum := "eaea4ea8bb3efe21e81d60561cf6c876fa0b5033e264d9d7ec7ebebfbe2293cc", func := "loop.example/g02078/laws.FnExactSpannedBars", spec := "fnExactSpannedBars", apart := false, narrowed := true }
def FnExactSpannedBarsUptoSaid : Prop := fnExactSpannedBarsUptoRow.holds Try.pinned (OpenSpec.upto fnExactSpannedBarsSpec)

/-- 'laws.FnExactIsConnected', WHERE WHAT IT READS IS OF BULK AT MOST 1048576: true; the input reads as it did. -/
def fnExactIsConnectedUptoRow : OpenClaim := { program := "yteccnekfjamioaa", sum := "eaea4ea8bb3efe21e81d60561cf6c876fa0b5033e264d9d7ec7ebebfbe2293cc", func := "loop.example/g02078/laws.FnExactIsConnected", spec := "fnExactIsConnected", apart := false, narrowed := true }
def FnExactIsConnectedUptoSaid : Prop := fnExactIsConnectedUptoRow.holds Try.pinned (OpenSpec.upto fnExactIsConnectedSpec)

/-- 'laws.FnExactIsSparse', WHERE WHAT IT READS IS OF BULK AT MOST 1048576: true; the input reads as it did. -/
def fnExactIsSparseUptoRow : OpenClaim := { program := "yteccnekfjamioaa", sum := "eaea4ea8bb3efe21e81d60561cf6c876fa0b5033e264d9d7ec7ebebfbe2293cc", func := "loop.example/g02078/laws.FnExactIsSparse", spec := "fnExactIsSparse", apart := false, narrowed := true }
def FnExactIsSparseUptoSaid : Prop := fnExactIsSparseUptoRow.holds Try.pinned (OpenSpec.upto fnExactIsSparseSpec)

/-- 'laws.FnExactIsTight', WHERE WHAT IT READS IS OF BULK AT MOST 1048576: true; the input reads as it did. -/
def fnExactIsTightUptoRow : OpenClaim := { program := "yteccnekfjamioaa", sum := "eaea4ea8bb3efe21e81d60561cf6c876fa0b5033e264d9d7ec7ebebfbe2293cc", func := "loop.example/g02078/laws.FnExactIsTight", spec := "fnExactIsTight", apart := false, narrowed := true }
def FnExactIsTightUptoSaid : Prop := fnExactIsTightUptoRow.holds Try.pinned (OpenSpec.upto fnExactIsTightSpec)

/-- 'laws.FnExactReachOf', WHERE WHAT IT READS IS OF BULK AT MOST 1048576: true; the input reads as it did. -/
def fnExactReachOfUptoRow : OpenClaim := { program := "yteccnekfjamioaa", sum := "eaea4ea8bb3efe21e81d60561cf6c876fa0b5033e264d9d7ec7ebebfbe2293cc", func := "loop.example/g02078/laws.FnExactReachOf", spec := "fnExactReachOf", apart := false, narrowed := true }
def FnExactReachOfUptoSaid : Prop := fnExactReachOfUptoRow.holds Try.pinned (OpenSpec.upto fnExactReachOfSpec)

/-- 'laws.FnExactNewPebbles', WHERE WHAT IT READS IS OF BULK AT MOST 1048576: true; the input reads as it did. -/
def fnExactNewPebblesUptoRow : OpenClaim := { program := "yteccnekfjamioaa", sum := "eaea4ea8bb3efe21e81d60561cf6c876fa0b5033e264d9d7ec7ebebfbe2293cc", func := "loop.example/g02078/laws.FnExactNewPebbles", spec := "fnExactNewPebbles", apart := false, narrowed := true }
def FnExactNewPebblesUptoSaid : Prop := fnExactNewPebblesUptoRow.holds Try.pinned (OpenSpec.upto fnExactNewPebblesSpec)

/-- 'laws.FnExactIsPebbles', WHERE WHAT IT READS IS OF BULK AT MOST 1048576: true; the input reads as it did. -/
def fnExactIsPebblesUptoRow : OpenClaim := { program := "yteccnekfjamioaa", sum := "eaea4ea8bb3efe21e81d60561cf6c876fa0b5033e264d9d7ec7ebebfbe2293cc", func := "loop.example/g02078/laws.FnExactIsPebbles", spec := "fnExactIsPebbles", apart := false, narrowed := true }
def FnExactIsPebblesUptoSaid : Prop := fnExactIsPebblesUptoRow.holds Try.pinned (OpenSpec.upto fnExactIsPebblesSpec)

/-- 'laws.FnExactOvercountedSet', WHERE WHAT IT READS IS OF BULK AT MOST 1048576: true; the input reads as it did. -/
def fnExactOvercountedSetUptoRow : OpenClaim := { program := "yteccnekfjamioaa", sum := "eaea4ea8bb3efe21e81d60561cf6c876fa0b5033e264d9d7ec7ebebfbe2293cc", func := "loop.example/g02078/laws.FnExactOvercountedSet", spec := "fnExactOvercountedSet", apart := false, narrowed := true }
def FnExactOvercountedSetUptoSaid : Prop := fnExactOvercountedSetUptoRow.holds Try.pinned (OpenSpec.upto fnExactOvercountedSetSpec)

/-- 'laws.FnExactParseGraph', WHERE WHAT IT READS IS OF BULK AT MOST 1048576: true; the input reads as it did. -/
def fnExactParseGraphUptoRow : OpenClaim := { program := "yteccnekfjamioaa", sum := "eaea4ea8bb3efe21e81d60561cf6c876fa0b5033e264d9d7ec7ebebfbe2293cc", func := "loop.example/g02078/laws.FnExactParseGraph", spec := "fnExactParseGraph", apart := false, narrowed := true }
def FnExactParseGraphUptoSaid : Prop := fnExactParseGraphUptoRow.holds Try.pinned (OpenSpec.upto fnExactParseGraphSpec)

end Rows
end Go.Proofs.Yteccnekfjamioaa
