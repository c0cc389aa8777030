/- The statement of FnExactParseGraph: for every input the law returns true and its arguments read as before: the law's walk is taken by its contract; no condition beyond the row's own. -/
import Derived.Test.YteccnekfjamioaaRows
import Derived.Test.YteccnekfjamioaaSo
import Derived.Test.YteccnekfjamioaaLFnExactParseGraph
namespace Go.Proofs.Yteccnekfjamioaa.fnExactParseGraph
open Go.ChangeShapes Go.WideShapes Go.ChangeAt Go.RowKit
open Go.ChangeMaps (open_string shut_string)
set_option linter.unusedVariables false

theorem own : ownKnob Try.prog.godebug = none := by kernel_rfl
theorem laidOut : laidOutB Try.prog = true := by kernel_rfl

set_option maxRecDepth 100000 in
theorem lifted (os : Os) (started : os.Started) (H : Type) (enc : TypeId × Value → H) :
    ReturnsInHanded {} Try.checked os 12 .any (Rows.fnExactParseGraphSpec.pre6 enc Try.prog Try.f12 Rows.fnExactParseGraphRow.domain false) (Rows.fnExactParseGraphSpec.post enc Try.prog Try.f12 false true false false) := by
  refine returnsInHanded_of_change (C := Try.checked) own started (by kernel_rfl) Try.func12
    (ChangeSpec.witness6 (enc := enc) (C := Try.checked) false ⟨#[], #[.string .empty], []⟩ 8 (by kernel_rfl) (by kernel_rfl) (by kernel_rfl) (by kernel_rfl)) ?_
  intro W base args ds gs before hval0 hW hcnd _
  have hval : ∀ (j : Nat) t v, Try.f12.params[j]? = some t → args[j]? = some v → Value.okWide Try.prog W .any base t v := hval0
  have hW' := hW
  obtain ⟨p, q, hA0, hV, rfl, hfz, hnd⟩ := hW
  have hA : DataW.TrodAll enc Try.prog W 0 (fun _ => true) true Try.f12.params.toList args.toList ds p := hA0
  rw [Try.params12] at hA hval
  obtain ⟨v0, vs0, d0, ds0, p0, q0, hargs, rfl, rfl, h0, r0⟩ := trodAll_cons hA
  obtain ⟨rfl, rfl, rfl⟩ := trodAll_nil r0
  obtain rfl : args = #[v0] := by cases args; simp_all
  obtain ⟨rfl, rfl⟩ := trodVars_none hV
  have k0 := h0
  obtain ⟨s0, rfl, -, -, wf0⟩ := open_string Try.underlying9 (hval 0 9 v0 rfl rfl) h0
  refine (law_c s0.data.toList W (show s0.data.toList.length ≤ 9223372036854775807 from wf0)).mono fun e W' ⟨he, hp⟩ => ?_
  subst he
  exact ⟨_, rfl, _, _, _, [], _, [], hW', trodAll_mk1 (shut_bool Try.underlying4 _), (trodAll_cons_mk (Pure.trod laidOut (by kernel_rfl) (of_decide_eq_true (by kernel_rfl)) k0 hp) trodAll_mk0), rfl, hp.below.frame _, fun h => by cases h⟩

theorem over : Rows.fnExactParseGraphRow.holds Try.pinned (OpenSpec.ofChange Rows.fnExactParseGraphSpec) :=
  OpenClaim.holds_of_wide 12 Try.f12 rfl rfl rfl rfl rfl rfl rfl ⟨rfl, rfl, rfl, rfl, rfl⟩ rfl rfl rfl rfl rfl (by kernel_rfl) Try.func12 (by kernel_rfl)
    (of_decide_eq_true (by kernel_rfl)) (by unfold Func.isWrapper; first | (rw [if_pos (by decide +kernel)]; kernel_rfl) | (rw [if_neg (by decide +kernel)]; exact ⟨rfl, rfl⟩))
    (fun os started H enc _ => lifted os started H enc)

theorem proved : Rows.FnExactParseGraphSaid := over
#print axioms proved
end Go.Proofs.Yteccnekfjamioaa.fnExactParseGraph
