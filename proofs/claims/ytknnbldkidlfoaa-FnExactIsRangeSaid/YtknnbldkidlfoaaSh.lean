/- Calls by contract, cases, results; from a judgement to a contract. No statement of the seat is proved here. -/
import Derived.Test.YtknnbldkidlfoaaSg
namespace Go.Proofs.Ytknnbldkidlfoaa
open Go Go.RowKit

/-- A function with a body. -/
class FnI (P : Program) (f : FuncId) : Prop where
  fn : ∃ fn, P.funcs[f]? = some fn ∧ fn.body.isNone = false ∧ (fn.name == "runtime.NumGoroutine") = false
theorem run_callFunc {P : Program} {f : FuncId} [h : FnI P f] (args : Array Value) (w : World) : (callFunc f args).run P w = .ok (.enter f args) w := by
  obtain ⟨fn, h1, h2, h3⟩ := h.fn
  simp only [callFunc, Sem.run_bind, run_program, Result.andThen_ok, h1]
  simp only [h3, h2, Bool.false_eq_true, if_false]
  rfl

/-- The operands' values. -/
inductive EvL (e : Env) : List Operand → List Value → Prop
  | nil : EvL e [] []
  | cons {x : Operand} {v : Value} {xs : List Operand} {vs : List Value} (h : ev e x = some v) (r : EvL e xs vs) : EvL e (x :: xs) (v :: vs)
theorem EvL.map {e : Env} {n : Nat} {a : Act} (hF : FR n a e) {xs : List Operand} {vs : List Value} (h : EvL e xs vs) : xs.map a.eval = vs := by
  induction h with
  | nil => rfl
  | cons hx _ ih => simp only [List.map_cons, ih, hF.ev hx]

/-- What a call makes new. -/
structure FE (w w' : World) (ns : List En) : Prop where
  holds : ∀ x ∈ ns, x.holds w'
  nodup : (ns.filterMap En.blk).Nodup
  fresh : ∀ b ∈ ns.filterMap En.blk, w.heap.size ≤ b
  ro : ∀ x ∈ ns, x.rdb = none

theorem St.adds {w0 w w' : World} {mu : Nat → Prop} {m ns : List En} (h : St w0 mu m w) (hx : Pure w w') (hn : FE w w' ns) : St w0 mu (ns ++ m) w' := by
  have h' := h.pure hx
  refine ⟨h'.ext, ?_, ?_, ?_, ?_⟩
  · intro y hy
    rcases List.mem_append.1 hy with hy | hy
    · exact hn.holds y hy
    · exact h'.holds y hy
  · rw [List.filterMap_append]
    refine List.nodup_append.2 ⟨hn.nodup, h.nodup, fun a ha b hb hab => ?_⟩
    have h1 := hn.fresh a ha
    have h2 := h.blk_lt b hb
    omega
  · intro b hb
    rw [List.filterMap_append] at hb
    rcases List.mem_append.1 hb with hb | hb
    · exact .inl (Nat.le_trans h.ext.size (hn.fresh b hb))
    · exact h.own b hb
  · intro y hy b hyb
    rcases List.mem_append.1 hy with hy | hy
    · rw [hn.ro y hy] at hyb; cases hyb
    · exact h.ro y hy b hyb

/-- At the end of a call that wrote nothing old. -/
theorem St.fe {w w' : World} {m ns : List En} (h : St w (fun _ => False) m w') (hs : SubM ns m) (hr : ∀ x ∈ ns, x.rdb = none) : Pure w w' ∧ FE w w' ns := by
  have h' := h.subM hs
  exact ⟨h.ext, h'.holds, h'.nodup, fun b hb => (h'.own b hb).resolve_right id, hr⟩

/-- A contract: the call writes nothing old, hands back a value, and what is named is new. -/
def CN (P : Program) (f : FuncId) (vs : List Value) (w : World) (ι : Type) (φ : ι → Prop) (r : ι → Value) (ns : ι → List En) : Prop :=
  Calls P f vs.toArray w fun en w' => ∃ x, en = .returned (r x) ∧ φ x ∧ Pure w w' ∧ FE w w' (ns x)
/-- A contract: a value, nothing new that is told. -/
def CS (P : Program) (f : FuncId) (vs : List Value) (w : World) (r : Value) : Prop :=
  Calls P f vs.toArray w fun en w' => en = .returned r ∧ Pure w w'

section
variable {C : Cx} {e : Env} {m : List En} {dst : Option Tmp} {ty : TypeId} {pos : String} {aft : Array Edge} {g : Option (Nat × Bool)} {k : List It}

theorem oper_call {f : FuncId} [FnI C.P f] {xs : List Operand} {vs : List Value} {ts : Array TypeId} {a : Act} {w : World} (hF : FR C.n a e) (hv : EvL e xs vs) {K : Act → World → Prop} {Q : Exit → Act → World → Prop} {R : Ending → World → Prop}
    (hc : Calls C.P f vs.toArray w R) (hR : ∀ en w', R en w' → ∃ v, en = .returned v ∧ K (a.put dst v) w') : Oper.wp C.P ⟨dst, .call ⟨.value (.func f), xs.toArray, ts⟩, ty, pos, aft, g⟩ a w K Q := by
  have hm := hv.map hF
  unfold Oper.wp
  simp only [execOp, resolve, invoke, List.map_toArray, hm, Act.eval, Deferred.ofValue, Sem.run_bind, Sem.run_pure, Result.andThen_ok, Array.append_empty, Array.empty_append]
  rw [run_callFunc]
  simp only [Oper.upon]
  refine hc.mono fun en w' h => ?_
  obtain ⟨v, rfl, hK⟩ := hR en w' h
  exact hK

theorem EF.call {f : FuncId} [FnI C.P f] {xs : List Operand} {vs : List Value} {ts : Array TypeId} {ι : Type} {φ : ι → Prop} {r : ι → Value} {m' : ι → List En} (hv : EvL e xs vs)
    (h : ∀ w, St C.w0 C.mu m w → Calls C.P f vs.toArray w fun en w' => ∃ x, en = .returned (r x) ∧ φ x ∧ St C.w0 C.mu (m' x) w') : EF C e m ⟨dst, .call ⟨.value (.func f), xs.toArray, ts⟩, ty, pos, aft, g⟩ ι φ r m' := by
  intro a w hF hS K Q hK
  refine oper_call hF hv (h w hS) ?_
  rintro en w' ⟨x, rfl, hx, hS'⟩
  exact ⟨_, rfl, hK x w' hx hS'⟩
theorem EF.callN {f : FuncId} [FnI C.P f] {xs : List Operand} {vs : List Value} {ts : Array TypeId} {ι : Type} {φ : ι → Prop} {r : ι → Value} {ns : ι → List En} (hv : EvL e xs vs)
    (h : ∀ w, St C.w0 C.mu m w → CN C.P f vs w ι φ r ns) : EF C e m ⟨dst, .call ⟨.value (.func f), xs.toArray, ts⟩, ty, pos, aft, g⟩ ι φ r (fun x => ns x ++ m) := by
  intro a w hF hS K Q hK
  refine oper_call hF hv (h w hS) ?_
  rintro en w' ⟨x, rfl, hx, hp, hn⟩
  exact ⟨_, rfl, hK x w' hx (hS.adds hp hn)⟩
theorem EF.callS {f : FuncId} [FnI C.P f] {xs : List Operand} {vs : List Value} {ts : Array TypeId} {r : Value} (hv : EvL e xs vs)
    (h : ∀ w, St C.w0 C.mu m w → CS C.P f vs w r) : EF C e m ⟨dst, .call ⟨.value (.func f), xs.toArray, ts⟩, ty, pos, aft, g⟩ Unit (fun _ => True) (fun _ => r) (fun _ => m) := by
  intro a w hF hS K Q hK
  refine oper_call hF hv (h w hS) ?_
  rintro en w' ⟨rfl, hp⟩
  exact ⟨_, rfl, hK () w' trivial (hS.pure hp)⟩

/-! ### Cases -/
theorem FR.known {n : Nat} {a : Act} {d : Nat} {b b' : Bool} (hF : FR n a e) (hd : look e d = some (.bool b)) (hb : b = b') : FR n a ((d, .bool b') :: e) := by
  subst hb
  refine ⟨hF.size, hF.defers, fun t v hv => ?_⟩
  simp only [look] at hv
  by_cases h : d = t
  · subst h
    simp only [Nat.beq_refl, cond_true, Option.some.injEq] at hv
    subst hv
    exact hF.at_ _ _ hd
  · rw [beq_ff h] at hv
    exact hF.at_ _ _ hv
theorem WL.case {ops : Array Oper} {l : List Oper} (d : Nat) {b : Bool} (hd : look e d = some (.bool b)) (ht : b = true → WL C ops k ((d, .bool true) :: e) m l) (hf : b = false → WL C ops k ((d, .bool false) :: e) m l) : WL C ops k e m l := by
  intro a w hF hS
  cases hb : b with
  | true => exact ht hb a w (hF.known hd hb) hS
  | false => exact hf hb a w (hF.known hd hb) hS
theorem WL.caseP {ops : Array Oper} {l : List Oper} (d : Nat) {p : Prop} [Decidable p] (hd : look e d = some (.bool (decide p))) (ht : p → WL C ops k ((d, .bool true) :: e) m l) (hf : ¬ p → WL C ops k ((d, .bool false) :: e) m l) : WL C ops k e m l :=
  WL.case d hd (fun h => ht (of_decide_eq_true h)) (fun h => hf (of_decide_eq_false h))
theorem WA.case {ops : Array Oper} {late : List Nat} {ms : List En} {fuel : Nat} {listed : Array Bool} (d : Nat) {b : Bool} (hd : look e d = some (.bool b)) (ht : b = true → WA C ops late ms k fuel listed ((d, .bool true) :: e) m) (hf : b = false → WA C ops late ms k fuel listed ((d, .bool false) :: e) m) : WA C ops late ms k fuel listed e m := by
  intro a w hF hS hSs
  cases hb : b with
  | true => exact ht hb a w (hF.known hd hb) hS hSs
  | false => exact hf hb a w (hF.known hd hb) hS hSs
theorem WA.caseP {ops : Array Oper} {late : List Nat} {ms : List En} {fuel : Nat} {listed : Array Bool} (d : Nat) {p : Prop} [Decidable p] (hd : look e d = some (.bool (decide p))) (ht : p → WA C ops late ms k fuel listed ((d, .bool true) :: e) m) (hf : ¬ p → WA C ops late ms k fuel listed ((d, .bool false) :: e) m) : WA C ops late ms k fuel listed e m :=
  WA.case d hd (fun h => ht (of_decide_eq_true h)) (fun h => hf (of_decide_eq_false h))
/-- A value told in other words. -/
theorem WL.say {ops : Array Oper} {l : List Oper} (d : Nat) {v : Value} (u : Value) (hd : look e d = some v) (he : v = u) (h : WL C ops k ((d, u) :: e) m l) : WL C ops k e m l := by
  subst he
  intro a w hF hS
  refine h a w ⟨hF.size, hF.defers, fun t x hx => ?_⟩ hS
  simp only [look] at hx
  by_cases h : d = t
  · subst h
    simp only [Nat.beq_refl, cond_true, Option.some.injEq] at hx
    subst hx
    exact hF.at_ _ _ hd
  · rw [beq_ff h] at hx
    exact hF.at_ _ _ hx
theorem JE.say {x : Exit} (d : Nat) {v : Value} (u : Value) (hd : look e d = some v) (he : v = u) (h : JE C x k ((d, u) :: e) m) : JE C x k e m := by
  subst he
  intro a w hF hS
  refine h a w ⟨hF.size, hF.defers, fun t x hx => ?_⟩ hS
  simp only [look] at hx
  by_cases h : d = t
  · subst h
    simp only [Nat.beq_refl, cond_true, Option.some.injEq] at hx
    subst hx
    exact hF.at_ _ _ hd
  · rw [beq_ff h] at hx
    exact hF.at_ _ _ hx
/-- Facts of the memory, brought out. -/
theorem WL.know {ops : Array Oper} {l : List Oper} (p : Prop) (hp : ∀ w, St C.w0 C.mu m w → p) (h : p → WL C ops k e m l) : WL C ops k e m l :=
  fun a w hF hS => h (hp w hS) a w hF hS
theorem J.know {c : Code} (p : Prop) (hp : ∀ w, St C.w0 C.mu m w → p) (h : p → J C c k e m) : J C c k e m :=
  fun a w hF hS => h (hp w hS) a w hF hS

/-! ### Results -/
theorem Post.ret : ∀ (k : List It) (a : Act) (w : World), Post C k .ret a w = bodyPost C.P C.fn C.R .ret a w
  | [], _, _ => rfl
  | .seq _ :: k, a, w => Post.ret k a w
  | .block _ :: k, a, w => Post.ret k a w
  | .cut _ :: k, a, w => Post.ret k a w
def mkRes : List Value → Value
  | [v] => v
  | vs => .tuple vs.toArray
theorem run_results {rs : List ResultVar} {vs : List Value} (hr : ResL C.P e m rs vs) {a : Act} {w : World} (hF : FR C.n a e) (hS : St C.w0 C.mu m w) (hf : C.fn.results = rs.toArray) : (results C.fn a.tmps).run C.P w = .ok (mkRes vs) w := by
  have key : ∀ (G : ResultVar → Sem Value), (∀ t, G (.tmp t) = pure (a.tmps.getD t undef)) → (∀ p t, G (.cell p t) = do loadVar t (← asAddr (a.tmps.getD p undef))) → ∀ (acc : Array Value), (List.foldlM (m := Sem) (fun (b : Array Value) (x : ResultVar) => Functor.map b.push (G x)) acc rs).run C.P w = .ok (acc ++ vs.toArray) w := by
    intro G h1 h2
    clear hf
    induction hr with
    | nil => intro acc; simp
    | @tmp t v rs vs h _ ih =>
      intro acc
      have hv : a.tmps.getD t undef = v := by simp [Array.getD_eq_getD_getElem?, hF.at_ t v h]
      have ih' := ih (acc.push v)
      simp only [List.foldlM_cons, h1, hv, Sem.run_bind, Sem.run_map, Sem.run_pure, Result.andThen_ok] at ih' ⊢
      rw [ih']
      simp
    | @cell p T b v rs vs h hl _ ih =>
      intro acc
      have hv : a.tmps.getD p undef = .pointer (some ⟨b, 0, none⟩) := by simp [Array.getD_eq_getD_getElem?, hF.at_ p _ h]
      have ih' := ih (acc.push v)
      simp only [List.foldlM_cons, h2, hv, asAddr, Sem.run_bind, Sem.run_map, Sem.run_pure, Result.andThen_ok, hl hS] at ih' ⊢
      rw [ih']
      simp
  unfold results
  rw [hf, Array.mapM_eq_foldlM, ← Array.foldlM_toList]
  simp only [Sem.run_bind]
  rw [key _ (fun t => by simp) (fun p t => by simp) #[]]
  simp only [Array.empty_append, Result.andThen_ok, Sem.run_pure]
  cases vs with
  | nil => rfl
  | cons v vs =>
    cases vs with
    | nil => rfl
    | cons u vs =>
      have : ¬ (v :: u :: vs).toArray.size = 1 := by simp
      simp only [dif_neg this, mkRes]
theorem JE.ret {rs : List ResultVar} {vs : List Value} (hf : C.fn.results = rs.toArray) (hr : ResL C.P e m rs vs) (h : ∀ w, St C.w0 C.mu m w → C.R (.returned (mkRes vs)) w) : JE C .ret k e m := by
  intro a w hF hS
  rw [Post.ret]
  exact ⟨hF.defers, _, run_results hr hF hS hf, h w hS⟩
theorem JE.fin {rs : List ResultVar} {vs : List Value} (hf : C.fn.results = rs.toArray) (hr : ResL C.P e m rs vs) (h : ∀ w, St C.w0 C.mu m w → C.R (.returned (mkRes vs)) w) : JE C .normal [] e m := by
  intro a w hF hS
  exact ⟨hF.defers, _, run_results hr hF hS hf, h w hS⟩

theorem ResL.flat {P : Program} {p : Tmp} {T T' : TypeId} {z : List Value} {b : Nat} {c : List Value} {r : List En} {rs : List ResultVar} {vs : List Value} [h : FlatI P T z] [hm : CellsI m b T' c r] (hp : look e p = some (.pointer (some ⟨b, 0, none⟩))) (hl : Nat.beq c.length z.length = true) (hr : ResL P e m rs vs) : ResL P e m (.cell p T :: rs) (.agg c.toArray :: vs) :=
  .cell hp (fun hS => by
    have hb := hS.holds (.cells b T' c) (hm.perm.mem_iff.2 (List.mem_cons_self ..))
    exact run_loadVar_whole (T := T) hb (Nat.eq_of_beq_eq_true hl)) hr

/-! ### From a judgement to a contract -/
def argEnv : Nat → List Value → Env
  | _, [] => []
  | i, v :: vs => (i, v) :: argEnv (i + 1) vs
theorem look_argEnv : ∀ (vs : List Value) (i t : Nat) (v : Value), look (argEnv i vs) t = some v → i ≤ t ∧ vs[t - i]? = some v
  | [], i, t, v, h => by cases h
  | u :: vs, i, t, v, h => by
    simp only [argEnv, look] at h
    by_cases hd : i = t
    · subst hd
      simp only [Nat.beq_refl, cond_true, Option.some.injEq] at h
      subst h
      simp
    · rw [beq_ff hd] at h
      simp only [cond_false] at h
      obtain ⟨h1, h2⟩ := look_argEnv vs (i + 1) t v h
      refine ⟨by omega, ?_⟩
      have : t - i = (t - (i + 1)) + 1 := by omega
      rw [this]
      simpa using h2
theorem calls_of_J {P : Program} {f : FuncId} {fn : Func} {c : Code} {vs : List Value} {w : World} {mu : Nat → Prop} {R : Ending → World → Prop} {m : List En} {e : Env} (hf : P.funcs[f]? = some fn) (hb : fn.body = some c) (hn : Nat.ble vs.length fn.ntmps = true) (he : Sub e (argEnv 0 vs))
    (hS : St w mu m w) (h : J ⟨P, fn, w, mu, R⟩ c [] e m) : Calls P f vs.toArray w R := by
  refine calls_of_wp hf hb ?_
  have hn' : vs.length ≤ fn.ntmps := Nat.le_of_ble_eq_true hn
  refine h _ w ?_ hS
  refine FR.weaken ?_ he
  refine ⟨by
    show (vs.toArray ++ Array.replicate (fn.ntmps - vs.toArray.size) undef).size = fn.ntmps
    simp; omega, rfl, fun t v hv => ?_⟩
  obtain ⟨_, h2⟩ := look_argEnv vs 0 t v hv
  have hlt := (List.getElem?_eq_some_iff.1 h2).1
  rw [Array.getElem?_append_left (by simpa using hlt)]
  simpa using h2
theorem St.init (w : World) (mu : Nat → Prop) : St w mu [] w :=
  ⟨Ext.refl _ _, (fun _ h => by cases h), List.Pairwise.nil, (fun _ h => by cases h), (fun _ h => by cases h)⟩
theorem Rd.lt {w : World} {v : Value} {sz : Nat} {ls : List (List Value)} (h : Rd w v sz ls) (hne : ls ≠ []) (hsz : 0 < sz) : ∀ b, v.ownBlock = some b → b < w.heap.size := by
  intro b hb
  obtain ⟨a, cap, hv, _, _, _⟩ := h.shape
  obtain ⟨x, ls', rfl⟩ := List.exists_cons_of_ne_nil hne
  have hx : x.length = sz := h.size x (by simp)
  obtain ⟨u, hu⟩ : ∃ u, x[0]? = some u := ⟨x[0], by simp [List.getElem?_eq_getElem (show 0 < x.length by omega)]⟩
  have := World.block_lt_of_cell? w _ (h.cell 0 x rfl 0 u hu)
  subst hv
  cases a with
  | none => simp [Value.ownBlock] at hb
  | some a =>
    simp [Value.ownBlock] at hb
    subst hb
    exact this

/-! ### Forms that a program writes -/
section
variable {ops : Array Oper} {rest : List Oper} {late : List Nat} {ms : List En} {fuel : Nat} {listed : Array Bool}
theorem RD.notT {T : TypeId} {x : Operand} (hx : ev e x = some (.bool true)) : RD C e m ⟨dst, .unOp .not T x, ty, pos, aft, g⟩ (.bool false) := RD.not hx
theorem RD.notF {T : TypeId} {x : Operand} (hx : ev e x = some (.bool false)) : RD C e m ⟨dst, .unOp .not T x, ty, pos, aft, g⟩ (.bool true) := RD.not hx
theorem WL.efS {d : Tmp} {op : Op} {ι : Type} {φ : ι → Prop} {r : ι → Value} {m' : ι → List En}
    (hv : EF C e m ⟨some d, op, ty, pos, aft, g⟩ ι φ r m') (hg : gyB ops e g = true) (hd : Nat.blt d C.fn.ntmps = true)
    (h : ∀ x, φ x → WL C ops k ((d, r x) :: e) (m' x) rest) : WL C ops k e m (⟨some d, op, ty, pos, aft, g⟩ :: rest) := WL.ef hv hg hd h
theorem WL.efN {op : Op} {ι : Type} {φ : ι → Prop} {r : ι → Value} {m' : ι → List En}
    (hv : EF C e m ⟨none, op, ty, pos, aft, g⟩ ι φ r m') (hg : gyB ops e g = true)
    (h : ∀ x, φ x → WL C ops k e (m' x) rest) : WL C ops k e m (⟨none, op, ty, pos, aft, g⟩ :: rest) := WL.ef hv hg rfl h
theorem WL.noS {d : Tmp} {op : Op} (hg : gnB ops e g = true) (hd : Nat.blt d C.fn.ntmps = true)
    (h : WL C ops k ((d, undef) :: e) m rest) : WL C ops k e m (⟨some d, op, ty, pos, aft, g⟩ :: rest) := WL.no hg hd h
theorem WAi.efS {i : Nat} {d : Tmp} {op : Op} {ι : Type} {φ : ι → Prop} {r : ι → Value} {m' : ι → List En} (hi : ops[i]? = some ⟨some d, op, ty, pos, aft, g⟩)
    (hv : EF C e m ⟨some d, op, ty, pos, aft, g⟩ ι φ r m') (hg : gyB ops e g = true) (hd : Nat.blt d C.fn.ntmps = true)
    (hs : ∀ x, SubM ms (m' x)) (h : ∀ x, φ x → WA C ops late ms k fuel (listed.setIfInBounds i true) ((d, r x) :: e) (m' x)) : WAi C ops late ms k fuel listed e m i := WAi.ef hi hv hg hd hs h
theorem WAi.efN {i : Nat} {op : Op} {ι : Type} {φ : ι → Prop} {r : ι → Value} {m' : ι → List En} (hi : ops[i]? = some ⟨none, op, ty, pos, aft, g⟩)
    (hv : EF C e m ⟨none, op, ty, pos, aft, g⟩ ι φ r m') (hg : gyB ops e g = true)
    (hs : ∀ x, SubM ms (m' x)) (h : ∀ x, φ x → WA C ops late ms k fuel (listed.setIfInBounds i true) e (m' x)) : WAi C ops late ms k fuel listed e m i := WAi.ef hi hv hg rfl hs h
theorem WAi.efSL {i : Nat} {d : Tmp} {op : Op} {ι : Type} {φ : ι → Prop} {r : ι → Value} {m' : ι → List En} (hi : ops[i]? = some ⟨some d, op, ty, pos, aft, g⟩)
    (hv : EF C e m ⟨some d, op, ty, pos, aft, g⟩ ι φ r m') (hg : gyB ops e g = true) (hd : Nat.blt d C.fn.ntmps = true) (hl : late.contains i = true)
    (h : ∀ x, φ x → WB C ops late ms k fuel (listed.setIfInBounds i true) ((d, r x) :: e) (m' x)) : WAi C ops late ms k fuel listed e m i := WAi.efL hi hv hg hd hl h
theorem WAi.efNL {i : Nat} {op : Op} {ι : Type} {φ : ι → Prop} {r : ι → Value} {m' : ι → List En} (hi : ops[i]? = some ⟨none, op, ty, pos, aft, g⟩)
    (hv : EF C e m ⟨none, op, ty, pos, aft, g⟩ ι φ r m') (hg : gyB ops e g = true) (hl : late.contains i = true)
    (h : ∀ x, φ x → WB C ops late ms k fuel (listed.setIfInBounds i true) e (m' x)) : WAi C ops late ms k fuel listed e m i := WAi.efL hi hv hg rfl hl h
theorem WB.efS {i : Nat} {d : Tmp} {op : Op} {ι : Type} {φ : ι → Prop} {r : ι → Value} {m' : ι → List En} (hr : Region.ready .any ops listed = [i]) (hi : ops[i]? = some ⟨some d, op, ty, pos, aft, g⟩)
    (hv : EF C e m ⟨some d, op, ty, pos, aft, g⟩ ι φ r m') (hg : gyB ops e g = true) (hd : Nat.blt d C.fn.ntmps = true) (hl : late.contains i = true)
    (h : ∀ x, φ x → WB C ops late ms k fuel (listed.setIfInBounds i true) ((d, r x) :: e) (m' x)) : WB C ops late ms k (fuel + 1) listed e m := WB.one hr hi hv hg hd hl h
theorem WB.efN {i : Nat} {op : Op} {ι : Type} {φ : ι → Prop} {r : ι → Value} {m' : ι → List En} (hr : Region.ready .any ops listed = [i]) (hi : ops[i]? = some ⟨none, op, ty, pos, aft, g⟩)
    (hv : EF C e m ⟨none, op, ty, pos, aft, g⟩ ι φ r m') (hg : gyB ops e g = true) (hl : late.contains i = true)
    (h : ∀ x, φ x → WB C ops late ms k fuel (listed.setIfInBounds i true) e (m' x)) : WB C ops late ms k (fuel + 1) listed e m := WB.one hr hi hv hg rfl hl h
end
theorem St.ro0 {w : World} {m : List En} {v : Value} {sz : Nat} {ls : List (List Value)} (h : St w (fun _ => False) m w) (hr : Rd w v sz ls) (hsz : 0 < sz) : St w (fun _ => False) (.ro v sz ls :: m) w :=
  h.addRo hr fun hne b hb => ⟨hr.lt hne hsz b hb, id⟩
theorem J.anyAll [hm : Mixed C.P] (late : List Nat) {id : Nat} {l : List Oper} (h : WA C l.toArray late m k l.length (Array.replicate l.length false) e m) : J C (.region id l.toArray true) k e m := by
  intro a w hF hS
  refine wp_region_any hm.mixed (wpAny_of_E (S := St C.w0 C.mu m) (late := late) _ _ _ _ ?_)
  have := h a _ hF hS.drew hS.drew
  simpa using this
theorem J.anyDrop [hm : Mixed C.P] (late : List Nat) (v : Value) {T : TypeId} {sz : Nat} {ls : List (List Value)} {r : List En} [hr : RowI m v T sz ls r] {id : Nat} {l : List Oper} (h : WA C l.toArray late r k l.length (Array.replicate l.length false) e m) : J C (.region id l.toArray true) k e m := by
  intro a w hF hS
  refine wp_region_any hm.mixed (wpAny_of_E (S := St C.w0 C.mu r) (late := late) _ _ _ _ ?_)
  have := h a _ hF hS.drew ((hS.drew.perm hr.perm).sub (List.sublist_cons_self _ _))
  simpa using this
theorem J.anyDropC [hm : Mixed C.P] (late : List Nat) (b : Nat) {T : TypeId} {c : List Value} {r : List En} [hr : CellsI m b T c r] {id : Nat} {l : List Oper} (h : WA C l.toArray late r k l.length (Array.replicate l.length false) e m) : J C (.region id l.toArray true) k e m := by
  intro a w hF hS
  refine wp_region_any hm.mixed (wpAny_of_E (S := St C.w0 C.mu r) (late := late) _ _ _ _ ?_)
  have := h a _ hF hS.drew ((hS.drew.perm hr.perm).sub (List.sublist_cons_self _ _))
  simpa using this
theorem Sub.consE {e' e : Env} {t : Nat} {u v : Value} (h : look e t = some u) (he : u = v) (r : Sub e' e) : Sub ((t, v) :: e') e := .cons (he ▸ h) r
theorem SubM.row {m m' r : List En} {v : Value} {T T' : TypeId} {sz sz' : Nat} {ls ls' : List (List Value)} [h : RowI m v T sz ls r] (hT : T = T') (hs : sz = sz') (hl : ls = ls') (t : SubM m' r) : SubM (.row v T' sz' ls' :: m') m := by
  subst hT hs hl
  exact .cons h.perm t
theorem SubM.cells {m m' r : List En} {b : Nat} {T T' : TypeId} {c c' : List Value} [h : CellsI m b T c r] (hT : T = T') (hl : c = c') (t : SubM m' r) : SubM (.cells b T' c' :: m') m := by
  subst hT hl
  exact .cons h.perm t
class RoI (m : List En) (v : Value) (sz : outParam Nat) (ls : outParam (List (List Value))) (r : outParam (List En)) : Prop where
  perm : m.Perm (.ro v sz ls :: r)
instance RoI.here {v : Value} {sz : Nat} {ls : List (List Value)} {m : List En} : RoI (.ro v sz ls :: m) v sz ls m := ⟨List.Perm.refl _⟩
instance (priority := 900) RoI.there {v : Value} {sz : Nat} {ls : List (List Value)} {y : En} {m r : List En} [h : RoI m v sz ls r] : RoI (y :: m) v sz ls (y :: r) := ⟨(h.perm.cons y).trans (List.Perm.swap _ y r)⟩
theorem SubM.ro {m m' r : List En} {v : Value} {sz sz' : Nat} {ls ls' : List (List Value)} [h : RoI m v sz ls r] (hs : sz = sz') (hl : ls = ls') (t : SubM m' r) : SubM (.ro v sz' ls' :: m') m := by
  subst hs hl
  exact .cons h.perm t
theorem mk_dec {p q : Prop} [Decidable p] [Decidable q] (h : p ↔ q) : mkRes [.bool (decide p)] = .bool (decide q) := by
  simp [mkRes, h]
theorem mk_true {q : Prop} [Decidable q] (h : q) : mkRes [.bool true] = .bool (decide q) := by
  simp [mkRes, h]
theorem mk_false {q : Prop} [Decidable q] (h : ¬ q) : mkRes [.bool false] = .bool (decide q) := by
  simp [mkRes, h]
theorem CS.fin {w w' : World} {m : List En} {v r : Value} (hS : St w (fun _ => False) m w') (h : v = r) : Ending.returned v = .returned r ∧ Pure w w' :=
  ⟨by rw [h], (hS.fe (ns := []) .nil (by simp)).1⟩
theorem CN.fin {w w' : World} {m : List En} {v : Value} {ι : Type} {φ : ι → Prop} {r : ι → Value} {ns : ι → List En} (hS : St w (fun _ => False) m w') (x : ι) (h : v = r x) (hp : φ x) (hs : SubM (ns x) m) (hr : ∀ y ∈ ns x, y.rdb = none) :
    ∃ x, Ending.returned v = .returned (r x) ∧ φ x ∧ Pure w w' ∧ FE w w' (ns x) :=
  ⟨x, by rw [h], hp, hS.fe hs hr⟩
end
end Go.Proofs.Ytknnbldkidlfoaa
