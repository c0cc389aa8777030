/-
  No cell of these rows narrows 'for every input' (looked for: loops, veiled, ifaces, maps, wideKeys, modest, calm, conditions, laid).
  DERIVED. THE GIVEN ROWS OF THIS SEAT. 4 by the template 'for every input the law returns true; each argument reads behind the call as it read before'; 0 by the template 'total and deterministic' (their statements: YtlcijjkbgcllfaaTotals.lean).
  GIVEN WITH THE SEED: the statements are not yours to turn. If you find one false, say at which input.
  Laid BY PROGRAM, IN A SANDBOX (cutbox-rows.mjs): the forced cells as the released guide's own fill.sh prints them over the translation 380a8ffc0744811c… (all of the seat's roots in one cut). By AI agents, Wed Nov 11 2026. No macro, syntax, notation, axiom, sorry.
-/
import Derived.Test.YtlcijjkbgcllfaaChecked
import GoSem.Claim
import GoSem.ClaimJoined
import GoSem.ClaimMapViews
import Derived.JoinedTies
import Derived.KernelRfl
namespace Go.Proofs.Ytlcijjkbgcllfaa
/- THE CELL 'sum', in the pinned program and in every row, IS THE sha256 OF THE DUMP (.gsa) THAT YtlcijjkbgcllfaaProg.lean LOADS. Nothing in Lean hashes anything: it is a label: what it is worth is what the hold of that sum in a sandbox is worth. -/
noncomputable def Try.pinned : Pinned := { name := "ytlcijjkbgcllfaa", sum := "380a8ffc0744811c23619b70015bac2be5c8631ef9c2585fe563d7ed3bf6f9cb", checked := Try.checked }
namespace Rows
def none {H : Type} : Left H := { results := [], args := [] }

/-- 'laws.FnCounts': WHATEVER THE INPUT: true; the input reads as it did. -/
def fnCountsSpec : ChangeSpec := { name := "fnCounts", fn := fun _ => fun
  | [d] => { results := [.lit (.bool true)], args := [d] }
  | _ => none }
def fnCountsRow : OpenClaim := { program := "ytlcijjkbgcllfaa", sum := "380a8ffc0744811c23619b70015bac2be5c8631ef9c2585fe563d7ed3bf6f9cb", func := "loop.example/g02078/laws.FnCounts", spec := "fnCounts", apart := false }
def FnCountsSaid : Prop := fnCountsRow.holds Try.pinned (OpenSpec.ofChange fnCountsSpec)

/-- ITS FALSE NEIGHBOUR: 'it returns false'. Refute it at one input. -/
def fnCountsWrong : ChangeSpec := { name := "fnCounts", fn := fun _ => fun
  | [d] => { results := [.lit (.bool false)], args := [d] }
  | _ => none }
def FnCountsWrongFalsely : Prop := fnCountsRow.holds Try.pinned (OpenSpec.ofChange fnCountsWrong)

/-- 'laws.FnGraphs': WHATEVER THE INPUT: true; the input reads as it did. -/
def fnGraphsSpec : ChangeSpec := { name := "fnGraphs", fn := fun _ => fun
  | [d] => { results := [.lit (.bool true)], args := [d] }
  | _ => none }
def fnGraphsRow : OpenClaim := { program := "ytlcijjkbgcllfaa", sum := "380a8ffc0744811c23619b70015bac2be5c8631ef9c2585fe563d7ed3bf6f9cb", func := "loop.example/g02078/laws.FnGraphs", spec := "fnGraphs", unfollowed := true, recurses := true, apart := false }
def FnGraphsSaid : Prop := fnGraphsRow.holds Try.pinned (OpenSpec.ofChange fnGraphsSpec)

/-- ITS FALSE NEIGHBOUR: 'it returns false'. Refute it at one input. -/
def fnGraphsWrong : ChangeSpec := { name := "fnGraphs", fn := fun _ => fun
  | [d] => { results := [.lit (.bool false)], args := [d] }
  | _ => none }
def FnGraphsWrongFalsely : Prop := fnGraphsRow.holds Try.pinned (OpenSpec.ofChange fnGraphsWrong)

/-- 'laws.FnPebbles': WHATEVER THE INPUT: true; the input reads as it did. -/
def fnPebblesSpec : ChangeSpec := { name := "fnPebbles", fn := fun _ => fun
  | [d] => { results := [.lit (.bool true)], args := [d] }
  | _ => none }
def fnPebblesRow : OpenClaim := { program := "ytlcijjkbgcllfaa", sum := "380a8ffc0744811c23619b70015bac2be5c8631ef9c2585fe563d7ed3bf6f9cb", func := "loop.example/g02078/laws.FnPebbles", spec := "fnPebbles", apart := false }
def FnPebblesSaid : Prop := fnPebblesRow.holds Try.pinned (OpenSpec.ofChange fnPebblesSpec)

/-- ITS FALSE NEIGHBOUR: 'it returns false'. Refute it at one input. -/
def fnPebblesWrong : ChangeSpec := { name := "fnPebbles", fn := fun _ => fun
  | [d] => { results := [.lit (.bool false)], args := [d] }
  | _ => none }
def FnPebblesWrongFalsely : Prop := fnPebblesRow.holds Try.pinned (OpenSpec.ofChange fnPebblesWrong)

/-- 'laws.FnMatroids': WHATEVER THE INPUT: true; the input reads as it did. -/
def fnMatroidsSpec : ChangeSpec := { name := "fnMatroids", fn := fun _ => fun
  | [d] => { results := [.lit (.bool true)], args := [d] }
  | _ => none }
def fnMatroidsRow : OpenClaim := { program := "ytlcijjkbgcllfaa", sum := "380a8ffc0744811c23619b70015bac2be5c8631ef9c2585fe563d7ed3bf6f9cb", func := "loop.example/g02078/laws.FnMatroids", spec := "fnMatroids", apart := false }
def FnMatroidsSaid : Prop := fnMatroidsRow.holds Try.pinned (OpenSpec.ofChange fnMatroidsSpec)

/-- ITS FALSE NEIGHBOUR: 'it returns false'. Refute it at one input. -/
def fnMatroidsWrong : ChangeSpec := { name := "fnMatroids", fn := fun _ => fun
  | [d] => { results := [.lit (.bool false)], args := [d] }
  | _ => none }
def FnMatroidsWrongFalsely : Prop := fnMatroidsRow.holds Try.pinned (OpenSpec.ofChange fnMatroidsWrong)

/- THE SECOND FORM. 'bulk': how many values and letters a reading holds, each counted each time it is reached (what is shared counts as often as it is met; a slice's spare places count too). A statement '..UptoSaid' is the law's where the arguments, and the package variables that the reading takes, are together of bulk at most 1048576: NARROWER than '..Said'. Prove '..Said' where nothing that the law and all that it calls make is longer than what came in: it says more and counts as full. Else prove '..UptoSaid'. A law counts once. -/
mutual
def uptoBulk {H : Type} : DataW H → Nat
  | .lit (.string bytes) => bytes.length + 1
  | .lit _ => 1
  | .nil => 1
  | .ptr d => uptoBulk d + 1
  | .slice elems spare => uptoBulkAll elems + uptoBulkAll spare + 1
  | .agg parts => uptoBulkAll parts + 1
  | .iface _ d => uptoBulk d + 1
  | .map entries => uptoBulkEntries entries + 1
  | .held _ => 1
def uptoBulkAll {H : Type} : List (DataW H) → Nat
  | [] => 0
  | d :: r => uptoBulk d + uptoBulkAll r
def uptoBulkEntries {H : Type} : List (Lit × DataW H) → Nat
  | [] => 0
  | x :: r => uptoBulkEntry x + uptoBulkEntries r
def uptoBulkEntry {H : Type} : Lit × DataW H → Nat
  | (.string bytes, d) => bytes.length + uptoBulk d + 1
  | (_, d) => uptoBulk d + 1
 end
def uptoSmall : (H : Type) → List (DataW H) → Bool := fun _ ds => decide (uptoBulkAll ds ≤ 1048576)
def OpenSpec.upto (s : _root_.Go.ChangeSpec) : _root_.Go.OpenSpec := { _root_.Go.OpenSpec.ofChange s with cond := some uptoSmall }

/-- 'laws.FnCounts', WHERE WHAT IT READS IS OF BULK AT MOST 1048576: true; the input reads as it did. -/
def fnCountsUptoRow : OpenClaim := { program := "ytlcijjkbgcllfaa", sum := "380a8ffc0744811c23619b70015bac2be5c8631ef9c2585fe563d7ed3bf6f9cb", func := "loop.example/g02078/laws.FnCounts", spec := "fnCounts", apart := false, narrowed := true }
def FnCountsUptoSaid : Prop := fnCountsUptoRow.holds Try.pinned (OpenSpec.upto fnCountsSpec)

/-- 'laws.FnGraphs', WHERE WHAT IT READS IS OF BULK AT MOST 1048576: true; the input reads as it did. -/
def fnGraphsUptoRow : OpenClaim := { program := "ytlcijjkbgcllfaa", sum := "380a8ffc0744811c23619b70015bac2be5c8631ef9c2585fe563d7ed3bf6f9cb", func := "loop.example/g02078/laws.FnGraphs", spec := "fnGraphs", unfollowed := true, recurses := true, apart := false, narrowed := true }
def FnGraphsUptoSaid : Prop := fnGraphsUptoRow.holds Try.pinned (OpenSpec.upto fnGraphsSpec)

/-- 'laws.FnPebbles', WHERE WHAT IT READS IS OF BULK AT MOST 1048576: true; the input reads as it did. -/
def fnPebblesUptoRow : OpenClaim := { program := "ytlcijjkbgcllfaa", sum := "380a8ffc0744811c23619b70015bac2be5c8631ef9c2585fe563d7ed3bf6f9cb", func := "loop.example/g02078/laws.FnPebbles", spec := "fnPebbles", apart := false, narrowed := true }
def FnPebblesUptoSaid : Prop := fnPebblesUptoRow.holds Try.pinned (OpenSpec.upto fnPebblesSpec)

/-- 'laws.FnMatroids', WHERE WHAT IT READS IS OF BULK AT MOST 1048576: true; the input reads as it did. -/
def fnMatroidsUptoRow : OpenClaim := { program := "ytlcijjkbgcllfaa", sum := "380a8ffc0744811c23619b70015bac2be5c8631ef9c2585fe563d7ed3bf6f9cb", func := "loop.example/g02078/laws.FnMatroids", spec := "fnMatroids", apart := false, narrowed := true }
def FnMatroidsUptoSaid : Prop := fnMatroidsUptoRow.holds Try.pinned (OpenSpec.upto fnMatroidsSpec)

end Rows
end Go.Proofs.Ytlcijjkbgcllfaa
