/- The statement of FnExactAddBar: for every input the law returns true and its arguments read as before: the law's walk is taken by its contract; no condition beyond the row's own. -/
import Derived.Test.YtmkalfofmodbdaaRows
import Derived.Test.YtmkalfofmodbdaaSo
import Derived.Test.YtmkalfofmodbdaaLFnExactAddBar
namespace Go.Proofs.Ytmkalfofmodbdaa.fnExactAddBar
open Go.ChangeShapes Go.WideShapes Go.ChangeAt Go.RowKit
open Go.ChangeMaps (open_string shut_string)
set_option linter.unusedVariables false

theorem own : ownKnob Try.prog.godebug = none := by kernel_rfl
theorem laidOut : laidOutB Try.prog = true := by kernel_rfl

set_option maxRecDepth 100000 in
theorem lifted (os : Os) (started : os.Started) (H : Type) (enc : TypeId × Value → H) :
    ReturnsInHanded {} Try.checked os 3 .any (Rows.fnExactAddBarSpec.pre6 enc Try.prog Try.f3 Rows.fnExactAddBarRow.domain false) (Rows.fnExactAddBarSpec.post enc Try.prog Try.f3 false true false false) := by
  refine returnsInHanded_of_change (C := Try.checked) own started (by kernel_rfl) Try.func3
    (ChangeSpec.witness6 (enc := enc) (C := Try.checked) false ⟨#[], #[.agg #[.int .i64 0, .slice none 0 0], .int .i64 0, .int .i64 0], []⟩ 8 (by kernel_rfl) (by kernel_rfl) (by kernel_rfl) (by kernel_rfl)) ?_
  intro W base args ds gs before hval0 hW hcnd _
  have hval : ∀ (j : Nat) t v, Try.f3.params[j]? = some t → args[j]? = some v → Value.okWide Try.prog W .any base t v := hval0
  have hW' := hW
  obtain ⟨p, q, hA0, hV, rfl, hfz, hnd⟩ := hW
  have hA : DataW.TrodAll enc Try.prog W 0 (fun _ => true) true Try.f3.params.toList args.toList ds p := hA0
  rw [Try.params3] at hA hval
  obtain ⟨v0, vs0, d0, ds0, p0, q0, hargs, rfl, rfl, h0, r0⟩ := trodAll_cons hA
  obtain ⟨v1, vs1, d1, ds1, p1, q1, rfl, rfl, rfl, h1, r1⟩ := trodAll_cons r0
  obtain ⟨v2, vs2, d2, ds2, p2, q2, rfl, rfl, rfl, h2, r2⟩ := trodAll_cons r1
  obtain ⟨rfl, rfl, rfl⟩ := trodAll_nil r2
  obtain rfl : args = #[v0, v1, v2] := by cases args; simp_all
  obtain ⟨rfl, rfl⟩ := trodVars_none hV
  have k0 := h0
  obtain ⟨c00, c01, y00, y01, m0, rfl, -, -, t00, t01⟩ := Go.Joins.open_agg2 Try.underlying24 (by kernel_rfl) (by kernel_rfl) (hval 0 24 v0 rfl rfl) h0
  obtain ⟨a0, e0, -, wf0⟩ := DataW.trod_int Try.underlying3 t00
  simp only [List.cons.injEq, and_true] at e0
  subst e0
  obtain ⟨x0, rd0, bd0⟩ := open_rd_bars (T := 22) (E := 51) (F0 := 3) Try.underlying51 rfl rfl t01
  have k1 := h1
  obtain ⟨a1, rfl, -, -, wf1⟩ := open_int Try.underlying3 (hval 1 3 v1 rfl rfl) h1
  have k2 := h2
  obtain ⟨a2, rfl, -, -, wf2⟩ := open_int Try.underlying3 (hval 2 3 v2 rfl rfl) h2
  refine (law_c a0 _ x0 a1 a2 W (bounds_i64 wf0) rd0 bd0 (bounds_i64 wf1) (bounds_i64 wf2)).mono fun e W' ⟨he, hp⟩ => ?_
  subst he
  exact ⟨_, rfl, _, _, _, [], _, [], hW', trodAll_mk1 (shut_bool Try.underlying4 _), (trodAll_cons_mk (Pure.trod laidOut (by kernel_rfl) (of_decide_eq_true (by kernel_rfl)) k0 hp) (trodAll_cons_mk (Pure.trod laidOut (by kernel_rfl) (of_decide_eq_true (by kernel_rfl)) k1 hp) (trodAll_cons_mk (Pure.trod laidOut (by kernel_rfl) (of_decide_eq_true (by kernel_rfl)) k2 hp) trodAll_mk0))), rfl, hp.below.frame _, fun h => by cases h⟩

theorem over : Rows.fnExactAddBarRow.holds Try.pinned (OpenSpec.ofChange Rows.fnExactAddBarSpec) :=
  OpenClaim.holds_of_wide 3 Try.f3 rfl rfl rfl rfl rfl rfl rfl ⟨rfl, rfl, rfl, rfl, rfl⟩ rfl rfl rfl rfl rfl (by kernel_rfl) Try.func3 (by kernel_rfl)
    (of_decide_eq_true (by kernel_rfl)) (by unfold Func.isWrapper; first | (rw [if_pos (by decide +kernel)]; kernel_rfl) | (rw [if_neg (by decide +kernel)]; exact ⟨rfl, rfl⟩))
    (fun os started H enc _ => lifted os started H enc)

theorem proved : Rows.FnExactAddBarSaid := over
#print axioms proved
end Go.Proofs.Ytmkalfofmodbdaa.fnExactAddBar
