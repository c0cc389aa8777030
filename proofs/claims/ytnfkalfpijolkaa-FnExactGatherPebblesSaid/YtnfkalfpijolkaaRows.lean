/-
  No cell of these rows narrows 'for every input' (looked for: loops, veiled, ifaces, maps, wideKeys, modest, calm, conditions, laid).
  DERIVED. THE GIVEN ROWS OF THIS SEAT. 10 by the template 'for every input the law returns true; each argument reads behind the call as it read before'; 0 by the template 'total and deterministic' (their statements: YtnfkalfpijolkaaTotals.lean).
  GIVEN WITH THE SEED: the statements are not yours to turn. If you find one false, say at which input.
  Laid BY PROGRAM, IN A SANDBOX (cutbox-rows.mjs): the forced cells as the released guide's own fill.sh prints them over the translation fc23d938e0995954… (all of the seat's roots in one cut). By AI agents, Wed Nov 11 2026. No macro, syntax, notation, axiom, sorry.
-/
import Derived.Test.YtnfkalfpijolkaaChecked
import GoSem.Claim
import GoSem.ClaimJoined
import GoSem.ClaimMapViews
import Derived.JoinedTies
import Derived.KernelRfl
namespace Go.Proofs.Ytnfkalfpijolkaa
/- THE CELL 'sum', in the pinned program and in every row, IS THE sha256 OF THE DUMP (.gsa) THAT YtnfkalfpijolkaaProg.lean LOADS. Nothing in Lean hashes anything: it is a label: what it is worth is what the hold of that sum in a sandbox is worth. -/
noncomputable def Try.pinned : Pinned := { name := "ytnfkalfpijolkaa", sum := "fc23d938e0995954887bac10ffacbabe829b54b23337a964c5245e2a55188cd1", checked := Try.checked }
namespace Rows
def none {H : Type} : Left H := { results := [], args := [] }

/-- 'laws.FnExactIsImplied': WHATEVER THE INPUT: true; the input reads as it did. -/
def fnExactIsImpliedSpec : ChangeSpec := { name := "fnExactIsImplied", fn := fun _ => fun
  | [d1, d2, d3] => { results := [.lit (.bool true)], args := [d1, d2, d3] }
  | _ => none }
def fnExactIsImpliedRow : OpenClaim := { program := "ytnfkalfpijolkaa", sum := "fc23d938e0995954887bac10ffacbabe829b54b23337a964c5245e2a55188cd1", func := "loop.example/g02078/laws.FnExactIsImplied", spec := "fnExactIsImplied", apart := false }
def FnExactIsImpliedSaid : Prop := fnExactIsImpliedRow.holds Try.pinned (OpenSpec.ofChange fnExactIsImpliedSpec)

/-- ITS FALSE NEIGHBOUR: 'it returns false'. Refute it at one input. -/
def fnExactIsImpliedWrong : ChangeSpec := { name := "fnExactIsImplied", fn := fun _ => fun
  | [d1, d2, d3] => { results := [.lit (.bool false)], args := [d1, d2, d3] }
  | _ => none }
def FnExactIsImpliedWrongFalsely : Prop := fnExactIsImpliedRow.holds Try.pinned (OpenSpec.ofChange fnExactIsImpliedWrong)

/-- 'laws.FnExactRankOf': WHATEVER THE INPUT: true; the input reads as it did. -/
def fnExactRankOfSpec : ChangeSpec := { name := "fnExactRankOf", fn := fun _ => fun
  | [d1, d2, d3] => { results := [.lit (.bool true)], args := [d1, d2, d3] }
  | _ => none }
def fnExactRankOfRow : OpenClaim := { program := "ytnfkalfpijolkaa", sum := "fc23d938e0995954887bac10ffacbabe829b54b23337a964c5245e2a55188cd1", func := "loop.example/g02078/laws.FnExactRankOf", spec := "fnExactRankOf", apart := false }
def FnExactRankOfSaid : Prop := fnExactRankOfRow.holds Try.pinned (OpenSpec.ofChange fnExactRankOfSpec)

/-- ITS FALSE NEIGHBOUR: 'it returns false'. Refute it at one input. -/
def fnExactRankOfWrong : ChangeSpec := { name := "fnExactRankOf", fn := fun _ => fun
  | [d1, d2, d3] => { results := [.lit (.bool false)], args := [d1, d2, d3] }
  | _ => none }
def FnExactRankOfWrongFalsely : Prop := fnExactRankOfRow.holds Try.pinned (OpenSpec.ofChange fnExactRankOfWrong)

/-- 'laws.FnExactFreedomOf': WHATEVER THE INPUT: true; the input reads as it did. -/
def fnExactFreedomOfSpec : ChangeSpec := { name := "fnExactFreedomOf", fn := fun _ => fun
  | [d] => { results := [.lit (.bool true)], args := [d] }
  | _ => none }
def fnExactFreedomOfRow : OpenClaim := { program := "ytnfkalfpijolkaa", sum := "fc23d938e0995954887bac10ffacbabe829b54b23337a964c5245e2a55188cd1", func := "loop.example/g02078/laws.FnExactFreedomOf", spec := "fnExactFreedomOf", apart := false }
def FnExactFreedomOfSaid : Prop := fnExactFreedomOfRow.holds Try.pinned (OpenSpec.ofChange fnExactFreedomOfSpec)

/-- ITS FALSE NEIGHBOUR: 'it returns false'. Refute it at one input. -/
def fnExactFreedomOfWrong : ChangeSpec := { name := "fnExactFreedomOf", fn := fun _ => fun
  | [d] => { results := [.lit (.bool false)], args := [d] }
  | _ => none }
def FnExactFreedomOfWrongFalsely : Prop := fnExactFreedomOfRow.holds Try.pinned (OpenSpec.ofChange fnExactFreedomOfWrong)

/-- 'laws.FnExactIsRigid': WHATEVER THE INPUT: true; the input reads as it did. -/
def fnExactIsRigidSpec : ChangeSpec := { name := "fnExactIsRigid", fn := fun _ => fun
  | [d] => { results := [.lit (.bool true)], args := [d] }
  | _ => none }
def fnExactIsRigidRow : OpenClaim := { program := "ytnfkalfpijolkaa", sum := "fc23d938e0995954887bac10ffacbabe829b54b23337a964c5245e2a55188cd1", func := "loop.example/g02078/laws.FnExactIsRigid", spec := "fnExactIsRigid", apart := false }
def FnExactIsRigidSaid : Prop := fnExactIsRigidRow.holds Try.pinned (OpenSpec.ofChange fnExactIsRigidSpec)

/-- ITS FALSE NEIGHBOUR: 'it returns false'. Refute it at one input. -/
def fnExactIsRigidWrong : ChangeSpec := { name := "fnExactIsRigid", fn := fun _ => fun
  | [d] => { results := [.lit (.bool false)], args := [d] }
  | _ => none }
def FnExactIsRigidWrongFalsely : Prop := fnExactIsRigidRow.holds Try.pinned (OpenSpec.ofChange fnExactIsRigidWrong)

/-- 'laws.FnExactIsMinimallyRigid': WHATEVER THE INPUT: true; the input reads as it did. -/
def fnExactIsMinimallyRigidSpec : ChangeSpec := { name := "fnExactIsMinimallyRigid", fn := fun _ => fun
  | [d] => { results := [.lit (.bool true)], args := [d] }
  | _ => none }
def fnExactIsMinimallyRigidRow : OpenClaim := { program := "ytnfkalfpijolkaa", sum := "fc23d938e0995954887bac10ffacbabe829b54b23337a964c5245e2a55188cd1", func := "loop.example/g02078/laws.FnExactIsMinimallyRigid", spec := "fnExactIsMinimallyRigid", apart := false }
def FnExactIsMinimallyRigidSaid : Prop := fnExactIsMinimallyRigidRow.holds Try.pinned (OpenSpec.ofChange fnExactIsMinimallyRigidSpec)

/-- ITS FALSE NEIGHBOUR: 'it returns false'. Refute it at one input. -/
def fnExactIsMinimallyRigidWrong : ChangeSpec := { name := "fnExactIsMinimallyRigid", fn := fun _ => fun
  | [d] => { results := [.lit (.bool false)], args := [d] }
  | _ => none }
def FnExactIsMinimallyRigidWrongFalsely : Prop := fnExactIsMinimallyRigidRow.holds Try.pinned (OpenSpec.ofChange fnExactIsMinimallyRigidWrong)

/-- 'laws.FnExactAcceptedBars': WHATEVER THE INPUT: true; the input reads as it did. -/
def fnExactAcceptedBarsSpec : ChangeSpec := { name := "fnExactAcceptedBars", fn := fun _ => fun
  | [d1, d2, d3] => { results := [.lit (.bool true)], args := [d1, d2, d3] }
  | _ => none }
def fnExactAcceptedBarsRow : OpenClaim := { program := "ytnfkalfpijolkaa", sum := "fc23d938e0995954887bac10ffacbabe829b54b23337a964c5245e2a55188cd1", func := "loop.example/g02078/laws.FnExactAcceptedBars", spec := "fnExactAcceptedBars", apart := false }
def FnExactAcceptedBarsSaid : Prop := fnExactAcceptedBarsRow.holds Try.pinned (OpenSpec.ofChange fnExactAcceptedBarsSpec)

/-- ITS FALSE NEIGHBOUR: 'it returns false'. Refute it at one input. -/
def fnExactAcceptedBarsWrong : ChangeSpec := { name := "fnExactAcceptedBars", fn := fun _ => fun
  | [d1, d2, d3] => { results := [.lit (.bool false)], args := [d1, d2, d3] }
  | _ => none }
def FnExactAcceptedBarsWrongFalsely : Prop := fnExactAcceptedBarsRow.holds Try.pinned (OpenSpec.ofChange fnExactAcceptedBarsWrong)

/-- 'laws.FnExactComponentOfBar': WHATEVER THE INPUT: true; the input reads as it did. -/
def fnExactComponentOfBarSpec : ChangeSpec := { name := "fnExactComponentOfBar", fn := fun _ => fun
  | [d1, d2] => { results := [.lit (.bool true)], args := [d1, d2] }
  | _ => none }
def fnExactComponentOfBarRow : OpenClaim := { program := "ytnfkalfpijolkaa", sum := "fc23d938e0995954887bac10ffacbabe829b54b23337a964c5245e2a55188cd1", func := "loop.example/g02078/laws.FnExactComponentOfBar", spec := "fnExactComponentOfBar", apart := false }
def FnExactComponentOfBarSaid : Prop := fnExactComponentOfBarRow.holds Try.pinned (OpenSpec.ofChange fnExactComponentOfBarSpec)

/-- ITS FALSE NEIGHBOUR: 'it returns false'. Refute it at one input. -/
def fnExactComponentOfBarWrong : ChangeSpec := { name := "fnExactComponentOfBar", fn := fun _ => fun
  | [d1, d2] => { results := [.lit (.bool false)], args := [d1, d2] }
  | _ => none }
def FnExactComponentOfBarWrongFalsely : Prop := fnExactComponentOfBarRow.holds Try.pinned (OpenSpec.ofChange fnExactComponentOfBarWrong)

/-- 'laws.FnExactRunPebbles': WHATEVER THE INPUT: true; the input reads as it did. -/
def fnExactRunPebblesSpec : ChangeSpec := { name := "fnExactRunPebbles", fn := fun _ => fun
  | [d1, d2, d3] => { results := [.lit (.bool true)], args := [d1, d2, d3] }
  | _ => none }
def fnExactRunPebblesRow : OpenClaim := { program := "ytnfkalfpijolkaa", sum := "fc23d938e0995954887bac10ffacbabe829b54b23337a964c5245e2a55188cd1", func := "loop.example/g02078/laws.FnExactRunPebbles", spec := "fnExactRunPebbles", apart := false }
def FnExactRunPebblesSaid : Prop := fnExactRunPebblesRow.holds Try.pinned (OpenSpec.ofChange fnExactRunPebblesSpec)

/-- ITS FALSE NEIGHBOUR: 'it returns false'. Refute it at one input. -/
def fnExactRunPebblesWrong : ChangeSpec := { name := "fnExactRunPebbles", fn := fun _ => fun
  | [d1, d2, d3] => { results := [.lit (.bool false)], args := [d1, d2, d3] }
  | _ => none }
def FnExactRunPebblesWrongFalsely : Prop := fnExactRunPebblesRow.holds Try.pinned (OpenSpec.ofChange fnExactRunPebblesWrong)

/-- 'laws.FnExactGatherPebbles': WHATEVER THE INPUT: true; the input reads as it did. -/
def fnExactGatherPebblesSpec : ChangeSpec := { name := "fnExactGatherPebbles", fn := fun _ => fun
  | [d1, d2, d3, d4, d5, d6] => { results := [.lit (.bool true)], args := [d1, d2, d3, d4, d5, d6] }
  | _ => none }
def fnExactGatherPebblesRow : OpenClaim := { program := "ytnfkalfpijolkaa", sum := "fc23d938e0995954887bac10ffacbabe829b54b23337a964c5245e2a55188cd1", func := "loop.example/g02078/laws.FnExactGatherPebbles", spec := "fnExactGatherPebbles", apart := false }
def FnExactGatherPebblesSaid : Prop := fnExactGatherPebblesRow.holds Try.pinned (OpenSpec.ofChange fnExactGatherPebblesSpec)

/-- ITS FALSE NEIGHBOUR: 'it returns false'. Refute it at one input. -/
def fnExactGatherPebblesWrong : ChangeSpec := { name := "fnExactGatherPebbles", fn := fun _ => fun
  | [d1, d2, d3, d4, d5, d6] => { results := [.lit (.bool false)], args := [d1, d2, d3, d4, d5, d6] }
  | _ => none }
def FnExactGatherPebblesWrongFalsely : Prop := fnExactGatherPebblesRow.holds Try.pinned (OpenSpec.ofChange fnExactGatherPebblesWrong)

/-- 'laws.FnExactRejectedBars': WHATEVER THE INPUT: true; the input reads as it did. -/
def fnExactRejectedBarsSpec : ChangeSpec := { name := "fnExactRejectedBars", fn := fun _ => fun
  | [d1, d2, d3] => { results := [.lit (.bool true)], args := [d1, d2, d3] }
  | _ => none }
def fnExactRejectedBarsRow : OpenClaim := { program := "ytnfkalfpijolkaa", sum := "fc23d938e0995954887bac10ffacbabe829b54b23337a964c5245e2a55188cd1", func := "loop.example/g02078/laws.FnExactRejectedBars", spec := "fnExactRejectedBars", apart := false }
def FnExactRejectedBarsSaid : Prop := fnExactRejectedBarsRow.holds Try.pinned (OpenSpec.ofChange fnExactRejectedBarsSpec)

/-- ITS FALSE NEIGHBOUR: 'it returns false'. Refute it at one input. -/
def fnExactRejectedBarsWrong : ChangeSpec := { name := "fnExactRejectedBars", fn := fun _ => fun
  | [d1, d2, d3] => { results := [.lit (.bool false)], args := [d1, d2, d3] }
  | _ => none }
def FnExactRejectedBarsWrongFalsely : Prop := fnExactRejectedBarsRow.holds Try.pinned (OpenSpec.ofChange fnExactRejectedBarsWrong)

/- THE SECOND FORM. 'bulk': how many values and letters a reading holds, each counted each time it is reached (what is shared counts as often as it is met; a slice's spare places count too). A statement '..UptoSaid' is the law's where the arguments, and the package variables that the reading takes, are together of bulk at most 1048576: NARROWER than '..Said'. Prove '..Said' where nothing that the law and all that it calls make is longer than what came in: it says more and counts as full. Else prove '..UptoSaid'. A law counts once. -/
mutual
def uptoBulk {H : Type} : DataW H → Nat
  | .lit (.string bytes) => bytes.length + 1
  | .lit _ => 1
  | .nil => 1
  | .ptr d => uptoBulk d + 1
  | .slice elems spare => uptoBulkAll elems + uptoBulkAll spare + 1
  | .agg parts => uptoBulkAll parts + 1
  | .iface _ d => uptoBulk d + 1
  | .map entries => uptoBulkEntries entries + 1
  | .held _ => 1
def uptoBulkAll {H : Type} : List (DataW H) → Nat
  | [] => 0
  | d :: r => uptoBulk d + uptoBulkAll r
def uptoBulkEntries {H : Type} : List (Lit × DataW H) → Nat
  | [] => 0
  | x :: r => uptoBulkEntry x + uptoBulkEntries r
def uptoBulkEntry {H : Type} : Lit × DataW H → Nat
  | (.string bytes, d) => bytes.length + uptoBulk d + 1
  | (_, d) => uptoBulk d + 1
 end
def uptoSmall : (H : Type) → List (DataW H) → Bool := fun _ ds => decide (uptoBulkAll ds ≤ 1048576)
def OpenSpec.upto (s : _root_.Go.ChangeSpec) : _root_.Go.OpenSpec := { _root_.Go.OpenSpec.ofChange s with cond := some uptoSmall }

/-- 'laws.FnExactIsImplied', WHERE WHAT IT READS IS OF BULK AT MOST 1048576: true; the input reads as it did. -/
def fnExactIsImpliedUptoRow : OpenClaim := { program := "ytnfkalfpijolkaa", sum := "fc23d938e0995954887bac10ffacbabe829b54b23337a964c5245e2a55188cd1", func := "loop.example/g02078/laws.FnExactIsImplied", spec := "fnExactIsImplied", apart := false, narrowed := true }
def FnExactIsImpliedUptoSaid : Prop := fnExactIsImpliedUptoRow.holds Try.pinned (OpenSpec.upto fnExactIsImpliedSpec)

/-- 'laws.FnExactRankOf', WHERE WHAT IT READS IS OF BULK AT MOST 1048576: true; the input reads as it did. -/
def fnExactRankOfUptoRow : OpenClaim := { program := "ytnfkalfpijolkaa", sum := "fc23d938e0995954887bac10ffacbabe829b54b23337a964c5245e2a55188cd1", func := "loop.example/g02078/laws.FnExactRankOf", spec := "fnExactRankOf", apart := false, narrowed := true }
def FnExactRankOfUptoSaid : Prop := fnExactRankOfUptoRow.holds Try.pinned (OpenSpec.upto fnExactRankOfSpec)

/-- 'laws.FnExactFreedomOf', WHERE WHAT IT READS IS OF BULK AT MOST 1048576: true; the input reads as it did. -/
def fnExactFreedomOfUptoRow : OpenClaim := { program := "ytnfkalfpijolkaa", sum := "fc23d938e0995954887bac10ffacbabe829b54b23337a964c5245e2a55188cd1", func := "loop.example/g02078/laws.FnExactFreedomOf", spec := "fnExactFreedomOf", apart := false, narrowed := true }
def FnExactFreedomOfUptoSaid : Prop := fnExactFreedomOfUptoRow.holds Try.pinned (OpenSpec.upto fnExactFreedomOfSpec)

/-- 'laws.FnExactIsRigid', WHERE WHAT IT READS IS OF BULK AT MOST 1048576: true; the input reads as it did. -/
def fnExactIsRigidUptoRow : OpenClaim := { program := "ytnfkalfpijolkaa", sum := "fc23d938e0995954887bac10ffacbabe829b54b23337a964c5245e2a55188cd1", func := "loop.example/g02078/laws.FnExactIsRigid", spec := "fnExactIsRigid", apart := false, narrowed := true }
def FnExactIsRigidUptoSaid : Prop := fnExactIsRigidUptoRow.holds Try.pinned (OpenSpec.upto fnExactIsRigidSpec)

/-- 'laws.FnExactIsMinimallyRigid', WHERE WHAT IT READS IS OF BULK AT MOST 1048576: true; the input reads as it did. -/
def fnExactIsMinimallyRigidUptoRow : OpenClaim := { program := "ytnfkalfpijolkaa", sum := "fc23d938e0995954887bac10ffacbabe829b54b23337a964c5245e2a55188cd1", func := "loop.example/g02078/laws.FnExactIsMinimallyRigid", spec := "fnExactIsMinimallyRigid", apart := false, narrowed := true }
def FnExactIsMinimallyRigidUptoSaid : Prop := fnExactIsMinimallyRigidUptoRow.holds Try.pinned (OpenSpec.upto fnExactIsMinimallyRigidSpec)

/-- 'laws.FnExactAcceptedBars', WHERE WHAT IT READS IS OF BULK AT MOST 1048576: true; the input reads as it did. -/
def fnExactAcceptedBarsUptoRow : OpenClaim := { program := "ytnfkalfpijolkaa", sum := "fc23d938e0995954887bac10ffacbabe829b54b23337a964c5245e2a55188cd1", func := "loop.example/g02078/laws.FnExactAcceptedBars", spec := "fnExactAcceptedBars", apart := false, narrowed := true }
def FnExactAcceptedBarsUptoSaid : Prop := fnExactAcceptedBarsUptoRow.holds Try.pinned (OpenSpec.upto fnExactAcceptedBarsSpec)

/-- 'laws.FnExactComponentOfBar', WHERE WHAT IT READS IS OF BULK AT MOST 1048576: true; the input reads as it did. -/
def fnExactComponentOfBarUptoRow : OpenClaim := { program := "ytnfkalfpijolkaa", sum := "fc23d938e0995954887bac10ffacbabe829b54b23337a964c5245e2a55188cd1", func := "loop.example/g02078/laws.FnExactComponentOfBar", spec := "fnExactComponentOfBar", apart := false, narrowed := true }
def FnExactComponentOfBarUptoSaid : Prop := fnExactComponentOfBarUptoRow.holds Try.pinned (OpenSpec.upto fnExactComponentOfBarSpec)

/-- 'laws.FnExactRunPebbles', WHERE WHAT IT READS IS OF BULK AT MOST 1048576: true; the input reads as it did. -/
def fnExactRunPebblesUptoRow : OpenClaim := { program := "ytnfkalfpijolkaa", sum := "fc23d938e0995954887bac10ffacbabe829b54b23337a964c5245e2a55188cd1", func := "loop.example/g02078/laws.FnExactRunPebbles", spec := "fnExactRunPebbles", apart := false, narrowed := true }
def FnExactRunPebblesUptoSaid : Prop := fnExactRunPebblesUptoRow.holds Try.pinned (OpenSpec.upto fnExactRunPebblesSpec)

/-- 'laws.FnExactGatherPebbles', WHERE WHAT IT READS IS OF BULK AT MOST 1048576: true; the input reads as it did. -/
def fnExactGatherPebblesUptoRow : OpenClaim := { program := "ytnfkalfpijolkaa", sum := "fc23d938e0995954887bac10ffacbabe829b54b23337a964c5245e2a55188cd1", func := "loop.example/g02078/laws.FnExactGatherPebbles", spec := "fnExactGatherPebbles", apart := false, narrowed := true }
def FnExactGatherPebblesUptoSaid : Prop := fnExactGatherPebblesUptoRow.holds Try.pinned (OpenSpec.upto fnExactGatherPebblesSpec)

/-- 'laws.FnExactRejectedBars', WHERE WHAT IT READS IS OF BULK AT MOST 1048576: true; the input reads as it did. -/
def fnExactRejectedBarsUptoRow : OpenClaim := { program := "ytnfkalfpijolkaa", sum := "fc23d938e0995954887bac10ffacbabe829b54b23337a964c5245e2a55188cd1", func := "loop.example/g02078/laws.FnExactRejectedBars", spec := "fnExactRejectedBars", apart := false, narrowed := true }
def FnExactRejectedBarsUptoSaid : Prop := fnExactRejectedBarsUptoRow.holds Try.pinned (OpenSpec.upto fnExactRejectedBarsSpec)

end Rows
end Go.Proofs.Ytnfkalfpijolkaa
