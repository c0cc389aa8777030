/- Regions that draw their order: operations that only read cells that nobody writes before the late operations may be taken first. No statement of the seat is proved here. -/
import Derived.Test.YtljllahlnbkimaaSj
namespace Go.Proofs.Ytljllahlnbkimaa
open Go Go.RowKit

section
variable {P : Program} {ops : Array Oper} {Q : Exit → Act → World → Prop} {md : Region.Mode} {S : World → Prop} {late : List Nat}

/-- Whatever order is picked from here on; each operation that is carried out and is not among the late ones keeps S. -/
def wpAnyE (P : Program) (md : Region.Mode) (ops : Array Oper) (Q : Exit → Act → World → Prop) (S : World → Prop) (late : List Nat) : Nat → Array Bool → Act → World → Prop
  | 0, listed, a, w => Region.ready md ops listed = [] ∧ Q .normal a w
  | fuel + 1, listed, a, w =>
    (Region.ready md ops listed = [] → Q .normal a w) ∧
    ∀ i ∈ Region.ready md ops listed, wpOp P ops Q i (fun a' w' => (late.contains i = false → S w → S w') ∧ wpAnyE P md ops Q S late fuel (listed.setIfInBounds i true) a' w') a w

theorem wpAny_of_E : ∀ (fuel : Nat) (listed : Array Bool) (a : Act) (w : World), wpAnyE P md ops Q S late fuel listed a w → wpAny P md ops Q fuel listed a w
  | 0, _, _, _, h => h
  | fuel + 1, _, _, _, h => ⟨h.1, fun i hi => wpOp_mono (fun a' w' h' => wpAny_of_E fuel _ a' w' h'.2) (h.2 i hi)⟩

/-- Every late operation waits for number i itself. -/
def lateB (md : Region.Mode) (ops : Array Oper) (late : List Nat) (i : Nat) : Bool :=
  late.all fun j => match ops[j]? with
    | some oj => oj.after.any fun e => Region.binds md e && e.on == i
    | none => false

theorem lateB_spec {i j : Nat} (h : lateB md ops late i = true) (hj : late.contains j = true) {oj : Oper} (ho : ops[j]? = some oj) : ∃ e ∈ oj.after, Region.binds md e = true ∧ e.on = i := by
  unfold lateB at h
  rw [List.all_eq_true] at h
  have h1 := h j (by simpa using hj)
  simp only [ho] at h1
  obtain ⟨e, he, hb⟩ := Array.any_eq_true'.1 h1
  simp only [Bool.and_eq_true, beq_iff_eq] at hb
  exact ⟨e, he, hb.1, hb.2⟩

theorem not_ready_of_pending {i : Nat} {oj : Oper} {listed : Array Bool} (hi : listed.getD i true = false)
    (hall : ∀ e ∈ oj.after, Region.binds md e = true → listed.getD e.on false = true) {e : Edge} (he : e ∈ oj.after) (hb : Region.binds md e = true) (heq : e.on = i) : False := by
  have h1 := hall e he hb
  rw [heq] at h1
  rcases Nat.lt_or_ge i listed.size with h' | h'
  · simp [h'] at hi h1; rw [hi] at h1; cases h1
  · simp [Array.getElem?_eq_none h'] at h1

theorem wpAnyE_first {i : Nat} {oi : Oper} {v : Value} (hi : ops[i]? = some oi) (hsel : ∀ (j : Nat) (o : Oper) cs b, ops[j]? = some o → o.op ≠ .select cs b)
    (hQ : ∀ c a w, Q (.panic c) (a.put oi.dst v) w → Q (.panic c) a w) (hl : lateB md ops late i = true) (hnl : late.contains i = false) :
    ∀ (fuel : Nat) (listed : Array Bool) (a : Act) (w : World),
      (∀ j oj, ops[j]? = some oj → j ≠ i → listed.getD j true = false → (∀ e ∈ oj.after, Region.binds md e = true → e.on ≠ i) → oi.apart ops oj = true) →
      i ∈ Region.ready md ops listed → YieldsIf P ops S oi v a → S w →
      wpAnyE P md ops Q S late fuel (listed.setIfInBounds i true) (a.put oi.dst v) w → wpAnyE P md ops Q S late (fuel + 1) listed a w := by
  intro fuel
  induction fuel with
  | zero =>
    intro listed a w _ hr hy hS H
    refine ⟨fun h => (by rw [h] at hr; cases hr), fun j hj => ?_⟩
    by_cases hji : j = i
    · subst hji; exact hy.wpOp hi hS ⟨fun _ _ => hS, H⟩
    · have := ready_mono hj hji
      rw [H.1] at this
      cases this
  | succ fuel ih =>
    intro listed a w hfree hr hy hS H
    refine ⟨fun h => (by rw [h] at hr; cases hr), fun j hj => ?_⟩
    by_cases hji : j = i
    · subst hji; exact hy.wpOp hi hS ⟨fun _ _ => hS, H⟩
    · have h1 := H.2 j (ready_mono hj hji)
      obtain ⟨hjun, oj, hoj, hall⟩ := mem_ready.1 hj
      have hpend := (mem_ready.1 hr).1
      have hnot : ∀ e ∈ oj.after, Region.binds md e = true → e.on ≠ i := fun e he hb heq => not_ready_of_pending hpend hall he hb heq
      have hear : late.contains j = false := by
        cases hlj : late.contains j with
        | false => rfl
        | true =>
          obtain ⟨e, he, hb, heq⟩ := lateB_spec hl hlj hoj
          exact (hnot e he hb heq).elim
      have h2 := wpOp_putIf hoj (hfree j oj hoj hji hjun hnot) (fun cs b => hsel i oi cs b hi) (fun cs b => hsel j oj cs b hoj) hQ hy h1
      have hfree' : ∀ k ok, ops[k]? = some ok → k ≠ i → (listed.setIfInBounds j true).getD k true = false →
          (∀ e ∈ ok.after, Region.binds md e = true → e.on ≠ i) → oi.apart ops ok = true := fun k ok hk hki hun hno => by
        refine hfree k ok hk hki ?_ hno
        by_cases hjk : j = k
        · subst hjk; exact hjun
        · rw [getD_set_ne true hjk] at hun; exact hun
      refine wpOp_mono (fun a' w' h3 => ⟨h3.2.1, ih (listed.setIfInBounds j true) a' w' hfree' (ready_mono hr (Ne.symm hji)) h3.1 (h3.2.1 hear hS) ?_⟩) h2
      rw [Array.setIfInBounds_comm _ _ hji]
      exact h3.2.2

/-- One that yields its value in whatever world may be taken first at any time. -/
theorem wpAnyE_firstPure {i : Nat} {oi : Oper} {v : Value} (hi : ops[i]? = some oi) (hsel : ∀ (j : Nat) (o : Oper) cs b, ops[j]? = some o → o.op ≠ .select cs b)
    (hQ : ∀ c a w, Q (.panic c) (a.put oi.dst v) w → Q (.panic c) a w) :
    ∀ (fuel : Nat) (listed : Array Bool) (a : Act) (w : World),
      (∀ j oj, ops[j]? = some oj → j ≠ i → listed.getD j true = false → (∀ e ∈ oj.after, Region.binds md e = true → e.on ≠ i) → oi.apart ops oj = true) →
      i ∈ Region.ready md ops listed → YieldsIf P ops (fun _ => True) oi v a →
      wpAnyE P md ops Q S late fuel (listed.setIfInBounds i true) (a.put oi.dst v) w → wpAnyE P md ops Q S late (fuel + 1) listed a w := by
  intro fuel
  induction fuel with
  | zero =>
    intro listed a w _ hr hy H
    refine ⟨fun h => (by rw [h] at hr; cases hr), fun j hj => ?_⟩
    by_cases hji : j = i
    · subst hji; exact hy.wpOp hi trivial ⟨fun _ h => h, H⟩
    · have := ready_mono hj hji
      rw [H.1] at this
      cases this
  | succ fuel ih =>
    intro listed a w hfree hr hy H
    refine ⟨fun h => (by rw [h] at hr; cases hr), fun j hj => ?_⟩
    by_cases hji : j = i
    · subst hji; exact hy.wpOp hi trivial ⟨fun _ h => h, H⟩
    · have h1 := H.2 j (ready_mono hj hji)
      obtain ⟨hjun, oj, hoj, hall⟩ := mem_ready.1 hj
      have hpend := (mem_ready.1 hr).1
      have hnot : ∀ e ∈ oj.after, Region.binds md e = true → e.on ≠ i := fun e he hb heq => not_ready_of_pending hpend hall he hb heq
      have h2 := wpOp_putIf hoj (hfree j oj hoj hji hjun hnot) (fun cs b => hsel i oi cs b hi) (fun cs b => hsel j oj cs b hoj) hQ hy h1
      have hfree' : ∀ k ok, ops[k]? = some ok → k ≠ i → (listed.setIfInBounds j true).getD k true = false →
          (∀ e ∈ ok.after, Region.binds md e = true → e.on ≠ i) → oi.apart ops ok = true := fun k ok hk hki hun hno => by
        refine hfree k ok hk hki ?_ hno
        by_cases hjk : j = k
        · subst hjk; exact hjun
        · rw [getD_set_ne true hjk] at hun; exact hun
      refine wpOp_mono (fun a' w' h3 => ⟨h3.2.1, ih (listed.setIfInBounds j true) a' w' hfree' (ready_mono hr (Ne.symm hji)) h3.1 ?_⟩) h2
      rw [Array.setIfInBounds_comm _ _ hji]
      exact h3.2.2
end

/-! ### Rules that serve regions of both kinds -/
/-- The guard lets the operation run. -/
def gyB (ops : Array Oper) (e : Env) : Option (Nat × Bool) → Bool
  | none => true
  | some (j, want) => match (ops[j]?).bind (·.dst) with
    | some d => match look e d with
      | some (.bool b) => b == want
      | _ => false
    | none => false
/-- The guard passes the operation over. -/
def gnB (ops : Array Oper) (e : Env) : Option (Nat × Bool) → Bool
  | none => false
  | some (j, want) => match (ops[j]?).bind (·.dst) with
    | some d => match look e d with
      | some (.bool b) => b != want
      | some (.tuple vs) => vs.isEmpty
      | _ => false
    | none => false

theorem wanted_gy {ops : Array Oper} {e : Env} {n : Nat} {a : Act} {o : Oper} (hF : FR n a e) (h : gyB ops e o.guard = true) : Region.wanted o (yielded ops a.tmps) = true := by
  unfold Region.wanted
  unfold gyB at h
  cases hg : o.guard with
  | none => rfl
  | some p =>
    obtain ⟨j, want⟩ := p
    rw [hg] at h
    simp only at h ⊢
    cases hd : (ops[j]?).bind (·.dst) with
    | none => rw [hd] at h; cases h
    | some d =>
      rw [hd] at h
      simp only at h
      cases hl : look e d with
      | none => rw [hl] at h; cases h
      | some u =>
        rw [hl] at h
        have := hF.at_ d u hl
        cases u <;> simp at h
        subst h
        simp [yielded, hd, this]

theorem wanted_gn {ops : Array Oper} {e : Env} {n : Nat} {a : Act} {o : Oper} (hF : FR n a e) (h : gnB ops e o.guard = true) : Region.wanted o (yielded ops a.tmps) = false := by
  unfold Region.wanted
  unfold gnB at h
  cases hg : o.guard with
  | none => rw [hg] at h; cases h
  | some p =>
    obtain ⟨j, want⟩ := p
    rw [hg] at h
    simp only at h ⊢
    cases hd : (ops[j]?).bind (·.dst) with
    | none => rw [hd] at h; cases h
    | some d =>
      rw [hd] at h
      simp only at h
      cases hl : look e d with
      | none => rw [hl] at h; cases h
      | some u =>
        rw [hl] at h
        have := hF.at_ d u hl
        cases u <;> simp at h <;> simp [yielded, hd, this, h]

/-- What an operation that only reads leaves, in every world of the class. -/
def RD (C : Cx) (e : Env) (m : List En) (o : Oper) (v : Value) : Prop :=
  ∀ a w, FR C.n a e → St C.w0 C.mu m w → (execOp a.eval o).run C.P w = .ok (.value v) w

/-- What an operation leaves that no later write can change. -/
def RDP (C : Cx) (e : Env) (m : List En) (o : Oper) (v : Value) : Prop :=
  ∀ a w, FR C.n a e → St C.w0 C.mu m w → ∀ w', (execOp a.eval o).run C.P w' = .ok (.value v) w'

/-- What an operation that changes the world leaves. -/
def EF (C : Cx) (e : Env) (m : List En) (o : Oper) (ι : Type) (φ : ι → Prop) (r : ι → Value) (m' : ι → List En) : Prop :=
  ∀ a w, FR C.n a e → St C.w0 C.mu m w → ∀ (K : Act → World → Prop) (Q : Exit → Act → World → Prop),
    (∀ x w', φ x → St C.w0 C.mu (m' x) w' → K (a.put o.dst (r x)) w') → o.wp C.P a w K Q

def putE (d : Option Tmp) (v : Value) (e : Env) : Env := match d with
  | some d => (d, v) :: e
  | none => e
def dstB (n : Nat) : Option Tmp → Bool
  | some d => Nat.blt d n
  | none => true
theorem FR.putE {n : Nat} {a : Act} {e : Env} (h : FR n a e) {d : Option Tmp} (hd : dstB n d = true) (v : Value) : FR n (a.put d v) (putE d v e) := by
  cases d with
  | none => exact h
  | some d => exact h.put (by simpa [dstB, Nat.blt_eq] using hd) v

section
variable {C : Cx} {k : List It} {e : Env} {m : List En} {ops : Array Oper} {rest : List Oper}

theorem WL.nil (h : JE C .normal k e m) : WL C ops k e m [] := fun a w hF hS => wpList_nil (h a w hF hS)
theorem WL.rd {d : Tmp} {op : Op} {ty : TypeId} {pos : String} {aft : Array Edge} {g : Option (Nat × Bool)} {v : Value} (hv : RD C e m ⟨some d, op, ty, pos, aft, g⟩ v) (hg : gyB ops e g = true) (hd : Nat.blt d C.fn.ntmps = true)
    (h : WL C ops k ((d, v) :: e) m rest) : WL C ops k e m (⟨some d, op, ty, pos, aft, g⟩ :: rest) := by
  intro a w hF hS
  unfold wpList
  rw [if_pos (wanted_gy (o := ⟨some d, op, ty, pos, aft, g⟩) hF hg)]
  refine .inl ?_
  unfold Oper.wp
  rw [hv a w hF hS]
  exact h _ _ (hF.put (by simpa [Nat.blt_eq] using hd) v) hS
theorem WL.no {d : Option Tmp} {op : Op} {ty : TypeId} {pos : String} {aft : Array Edge} {g : Option (Nat × Bool)} (hg : gnB ops e g = true) (hd : dstB C.fn.ntmps d = true)
    (h : WL C ops k (putE d undef e) m rest) : WL C ops k e m (⟨d, op, ty, pos, aft, g⟩ :: rest) := by
  intro a w hF hS
  unfold wpList
  rw [if_neg (by rw [wanted_gn (o := ⟨d, op, ty, pos, aft, g⟩) hF hg]; simp)]
  exact h _ _ (hF.putE hd undef) hS
theorem WL.ef {d : Option Tmp} {op : Op} {ty : TypeId} {pos : String} {aft : Array Edge} {g : Option (Nat × Bool)} {ι : Type} {φ : ι → Prop} {r : ι → Value} {m' : ι → List En}
    (hv : EF C e m ⟨d, op, ty, pos, aft, g⟩ ι φ r m') (hg : gyB ops e g = true) (hd : dstB C.fn.ntmps d = true)
    (h : ∀ x, φ x → WL C ops k (putE d (r x) e) (m' x) rest) : WL C ops k e m (⟨d, op, ty, pos, aft, g⟩ :: rest) := by
  intro a w hF hS
  unfold wpList
  rw [if_pos (wanted_gy (o := ⟨d, op, ty, pos, aft, g⟩) hF hg)]
  refine .inl (hv a w hF hS _ _ fun x w' hx hS' => h x hx _ _ (hF.putE hd (r x)) hS')

theorem J.reg {id : Nat} {l : List Oper} (h : WL C l.toArray k e m l) : J C (.region id l.toArray false) k e m :=
  fun a w hF hS => wp_region_lit (h a w hF hS)

/-! ### Regions that draw -/
def WA (C : Cx) (ops : Array Oper) (late : List Nat) (ms : List En) (k : List It) (fuel : Nat) (listed : Array Bool) (e : Env) (m : List En) : Prop :=
  ∀ a w, FR C.n a e → St C.w0 C.mu m w → St C.w0 C.mu ms w → wpAnyE C.P .any ops (Post C k) (St C.w0 C.mu ms) late fuel listed a w
def WB (C : Cx) (ops : Array Oper) (late : List Nat) (ms : List En) (k : List It) (fuel : Nat) (listed : Array Bool) (e : Env) (m : List En) : Prop :=
  ∀ a w, FR C.n a e → St C.w0 C.mu m w → wpAnyE C.P .any ops (Post C k) (St C.w0 C.mu ms) late fuel listed a w

class Mixed (P : Program) : Prop where
  mixed : P.follows .mixedOrders = true

theorem St.drew {w0 w : World} {mu : Nat → Prop} {m : List En} (h : St w0 mu m w) : St w0 mu m w.drew := h.pure (Ext.drew w _)

theorem J.any [hm : Mixed C.P] (late : List Nat) (ms : List En) {id : Nat} {l : List Oper} (hms : SubM ms m)
    (h : WA C l.toArray late ms k l.length (Array.replicate l.length false) e m) : J C (.region id l.toArray true) k e m := by
  intro a w hF hS
  refine wp_region_any hm.mixed (wpAny_of_E (S := St C.w0 C.mu ms) (late := late) _ _ _ _ ?_)
  have hS' : St C.w0 C.mu m { w with drawn := w.drawn + 1 } := hS.drew
  have := h a _ hF hS' (hS'.subM hms)
  simpa using this

def takeB (ops : Array Oper) (late : List Nat) (listed : Array Bool) (i : Nat) : Bool :=
  Region.noSelect ops && (Region.free .any ops listed i && ((Region.ready .any ops listed).contains i && (lateB .any ops late i && !late.contains i)))
def takeLB (ops : Array Oper) (listed : Array Bool) (i : Nat) : Bool :=
  Region.noSelect ops && (Region.free .any ops listed i && (Region.ready .any ops listed).contains i)

variable {late : List Nat} {ms : List En} {fuel : Nat} {listed : Array Bool}

theorem WA.take (i : Nat) {d : Tmp} {op : Op} {ty : TypeId} {pos : String} {aft : Array Edge} {g : Option (Nat × Bool)} {v : Value} (hi : ops[i]? = some ⟨some d, op, ty, pos, aft, g⟩)
    (hv : RD C e ms ⟨some d, op, ty, pos, aft, g⟩ v) (hg : gyB ops e g = true) (hc : takeB ops late listed i = true) (hd : Nat.blt d C.fn.ntmps = true)
    (h : WA C ops late ms k fuel (listed.setIfInBounds i true) ((d, v) :: e) m) : WA C ops late ms k (fuel + 1) listed e m := by
  intro a w hF hS hSs
  simp only [takeB, Bool.and_eq_true, Bool.not_eq_true'] at hc
  obtain ⟨h1, h2, h3, h4, h5⟩ := hc
  exact wpAnyE_first hi (Region.noSelect_spec h1) (fun c a w => Post.put k _ _ c a w) h4 h5 fuel listed a w (Region.free_spec hi h2) (by simpa using h3)
    (.inl ⟨wanted_gy (o := ⟨some d, op, ty, pos, aft, g⟩) hF hg, fun w' hw' => hv a w' hF hw'⟩) hSs (h _ _ (hF.put (by simpa [Nat.blt_eq] using hd) v) hS hSs)
theorem WA.no (i : Nat) {d : Tmp} {op : Op} {ty : TypeId} {pos : String} {aft : Array Edge} {g : Option (Nat × Bool)} (hi : ops[i]? = some ⟨some d, op, ty, pos, aft, g⟩)
    (hg : gnB ops e g = true) (hc : takeLB ops listed i = true) (hd : Nat.blt d C.fn.ntmps = true)
    (h : WA C ops late ms k fuel (listed.setIfInBounds i true) ((d, undef) :: e) m) : WA C ops late ms k (fuel + 1) listed e m := by
  intro a w hF hS hSs
  simp only [takeLB, Bool.and_eq_true] at hc
  obtain ⟨h1, h2, h3⟩ := hc
  exact wpAnyE_firstPure hi (Region.noSelect_spec h1) (fun c a w => Post.put k _ _ c a w) fuel listed a w (Region.free_spec hi h2) (by simpa using h3)
    (.inr ⟨wanted_gn (o := ⟨some d, op, ty, pos, aft, g⟩) hF hg, rfl⟩) (h _ _ (hF.put (by simpa [Nat.blt_eq] using hd) undef) hS hSs)
theorem WB.no (i : Nat) {d : Tmp} {op : Op} {ty : TypeId} {pos : String} {aft : Array Edge} {g : Option (Nat × Bool)} (hi : ops[i]? = some ⟨some d, op, ty, pos, aft, g⟩)
    (hg : gnB ops e g = true) (hc : takeLB ops listed i = true) (hd : Nat.blt d C.fn.ntmps = true)
    (h : WB C ops late ms k fuel (listed.setIfInBounds i true) ((d, undef) :: e) m) : WB C ops late ms k (fuel + 1) listed e m := by
  intro a w hF hS
  simp only [takeLB, Bool.and_eq_true] at hc
  obtain ⟨h1, h2, h3⟩ := hc
  exact wpAnyE_firstPure hi (Region.noSelect_spec h1) (fun c a w => Post.put k _ _ c a w) fuel listed a w (Region.free_spec hi h2) (by simpa using h3)
    (.inr ⟨wanted_gn (o := ⟨some d, op, ty, pos, aft, g⟩) hF hg, rfl⟩) (h _ _ (hF.put (by simpa [Nat.blt_eq] using hd) undef) hS)
theorem WA.takeP (i : Nat) {d : Tmp} {op : Op} {ty : TypeId} {pos : String} {aft : Array Edge} {g : Option (Nat × Bool)} {v : Value} (hi : ops[i]? = some ⟨some d, op, ty, pos, aft, g⟩)
    (hv : RDP C e m ⟨some d, op, ty, pos, aft, g⟩ v) (hg : gyB ops e g = true) (hc : takeLB ops listed i = true) (hd : Nat.blt d C.fn.ntmps = true)
    (h : WA C ops late ms k fuel (listed.setIfInBounds i true) ((d, v) :: e) m) : WA C ops late ms k (fuel + 1) listed e m := by
  intro a w hF hS hSs
  simp only [takeLB, Bool.and_eq_true] at hc
  obtain ⟨h1, h2, h3⟩ := hc
  exact wpAnyE_firstPure hi (Region.noSelect_spec h1) (fun c a w => Post.put k _ _ c a w) fuel listed a w (Region.free_spec hi h2) (by simpa using h3)
    (.inl ⟨wanted_gy (o := ⟨some d, op, ty, pos, aft, g⟩) hF hg, fun w' _ => hv a w hF hS w'⟩) (h _ _ (hF.put (by simpa [Nat.blt_eq] using hd) v) hS hSs)
theorem WB.takeP (i : Nat) {d : Tmp} {op : Op} {ty : TypeId} {pos : String} {aft : Array Edge} {g : Option (Nat × Bool)} {v : Value} (hi : ops[i]? = some ⟨some d, op, ty, pos, aft, g⟩)
    (hv : RDP C e m ⟨some d, op, ty, pos, aft, g⟩ v) (hg : gyB ops e g = true) (hc : takeLB ops listed i = true) (hd : Nat.blt d C.fn.ntmps = true)
    (h : WB C ops late ms k fuel (listed.setIfInBounds i true) ((d, v) :: e) m) : WB C ops late ms k (fuel + 1) listed e m := by
  intro a w hF hS
  simp only [takeLB, Bool.and_eq_true] at hc
  obtain ⟨h1, h2, h3⟩ := hc
  exact wpAnyE_firstPure hi (Region.noSelect_spec h1) (fun c a w => Post.put k _ _ c a w) fuel listed a w (Region.free_spec hi h2) (by simpa using h3)
    (.inl ⟨wanted_gy (o := ⟨some d, op, ty, pos, aft, g⟩) hF hg, fun w' _ => hv a w hF hS w'⟩) (h _ _ (hF.put (by simpa [Nat.blt_eq] using hd) v) hS)
theorem WA.done (hr : Region.ready .any ops listed = []) (h : JE C .normal k e m) : WA C ops late ms k fuel listed e m := by
  intro a w hF hS _
  cases fuel with
  | zero => exact ⟨hr, h a w hF hS⟩
  | succ f => exact ⟨fun _ => h a w hF hS, by rw [hr]; simp⟩
theorem WB.done (hr : Region.ready .any ops listed = []) (h : JE C .normal k e m) : WB C ops late ms k fuel listed e m := by
  intro a w hF hS
  cases fuel with
  | zero => exact ⟨hr, h a w hF hS⟩
  | succ f => exact ⟨fun _ => h a w hF hS, by rw [hr]; simp⟩

/-- What is to be shown of operation number i if it comes up next, S known before. -/
def WAi (C : Cx) (ops : Array Oper) (late : List Nat) (ms : List En) (k : List It) (fuel : Nat) (listed : Array Bool) (e : Env) (m : List En) (i : Nat) : Prop :=
  ∀ a w, FR C.n a e → St C.w0 C.mu m w → St C.w0 C.mu ms w → wpOp C.P ops (Post C k) i (fun a' w' => (late.contains i = false → St C.w0 C.mu ms w → St C.w0 C.mu ms w') ∧ wpAnyE C.P .any ops (Post C k) (St C.w0 C.mu ms) late fuel (listed.setIfInBounds i true) a' w') a w

theorem WA.one {i : Nat} (hr : Region.ready .any ops listed = [i]) (h : WAi C ops late ms k fuel listed e m i) : WA C ops late ms k (fuel + 1) listed e m := by
  intro a w hF hS hSs
  refine ⟨fun h0 => (by rw [hr] at h0; cases h0), ?_⟩
  rw [hr]
  intro j hj
  have : j = i := by simpa using hj
  subst this
  exact h a w hF hS hSs
theorem WA.two {i j : Nat} (hr : Region.ready .any ops listed = [i, j]) (h : WAi C ops late ms k fuel listed e m i) (h' : WAi C ops late ms k fuel listed e m j) : WA C ops late ms k (fuel + 1) listed e m := by
  intro a w hF hS hSs
  refine ⟨fun h0 => (by rw [hr] at h0; cases h0), ?_⟩
  rw [hr]
  intro x hx
  rcases List.mem_cons.1 hx with rfl | hx
  · exact h a w hF hS hSs
  · have : x = j := by simpa using hx
    subst this
    exact h' a w hF hS hSs
theorem WA.more {rs : List Nat} (hr : Region.ready .any ops listed = rs) (hne : rs ≠ []) (h : ∀ i ∈ rs, WAi C ops late ms k fuel listed e m i) : WA C ops late ms k (fuel + 1) listed e m := by
  intro a w hF hS hSs
  refine ⟨fun h0 => (by rw [hr] at h0; exact absurd h0 hne), ?_⟩
  rw [hr]
  intro x hx
  exact h x hx a w hF hS hSs
theorem WAi.ef {i : Nat} {d : Option Tmp} {op : Op} {ty : TypeId} {pos : String} {aft : Array Edge} {g : Option (Nat × Bool)} {ι : Type} {φ : ι → Prop} {r : ι → Value} {m' : ι → List En} (hi : ops[i]? = some ⟨d, op, ty, pos, aft, g⟩)
    (hv : EF C e m ⟨d, op, ty, pos, aft, g⟩ ι φ r m') (hg : gyB ops e g = true) (hd : dstB C.fn.ntmps d = true)
    (hs : ∀ x, SubM ms (m' x)) (h : ∀ x, φ x → WA C ops late ms k fuel (listed.setIfInBounds i true) (putE d (r x) e) (m' x)) : WAi C ops late ms k fuel listed e m i := by
  intro a w hF hS _
  unfold wpOp
  simp only [hi]
  rw [if_pos (wanted_gy (o := ⟨d, op, ty, pos, aft, g⟩) hF hg)]
  exact .inl (hv a w hF hS _ _ fun x w' hx hS' => ⟨fun _ _ => hS'.subM (hs x), h x hx _ _ (hF.putE hd (r x)) hS' (hS'.subM (hs x))⟩)
theorem WAi.efL {i : Nat} {d : Option Tmp} {op : Op} {ty : TypeId} {pos : String} {aft : Array Edge} {g : Option (Nat × Bool)} {ι : Type} {φ : ι → Prop} {r : ι → Value} {m' : ι → List En} (hi : ops[i]? = some ⟨d, op, ty, pos, aft, g⟩)
    (hv : EF C e m ⟨d, op, ty, pos, aft, g⟩ ι φ r m') (hg : gyB ops e g = true) (hd : dstB C.fn.ntmps d = true) (hl : late.contains i = true)
    (h : ∀ x, φ x → WB C ops late ms k fuel (listed.setIfInBounds i true) (putE d (r x) e) (m' x)) : WAi C ops late ms k fuel listed e m i := by
  intro a w hF hS _
  unfold wpOp
  simp only [hi]
  rw [if_pos (wanted_gy (o := ⟨d, op, ty, pos, aft, g⟩) hF hg)]
  exact .inl (hv a w hF hS _ _ fun x w' hx hS' => ⟨fun hh _ => (by rw [hl] at hh; cases hh), h x hx _ _ (hF.putE hd (r x)) hS'⟩)
theorem WB.one {i : Nat} {d : Option Tmp} {op : Op} {ty : TypeId} {pos : String} {aft : Array Edge} {g : Option (Nat × Bool)} {ι : Type} {φ : ι → Prop} {r : ι → Value} {m' : ι → List En} (hr : Region.ready .any ops listed = [i]) (hi : ops[i]? = some ⟨d, op, ty, pos, aft, g⟩)
    (hv : EF C e m ⟨d, op, ty, pos, aft, g⟩ ι φ r m') (hg : gyB ops e g = true) (hd : dstB C.fn.ntmps d = true) (hl : late.contains i = true)
    (h : ∀ x, φ x → WB C ops late ms k fuel (listed.setIfInBounds i true) (putE d (r x) e) (m' x)) : WB C ops late ms k (fuel + 1) listed e m := by
  intro a w hF hS
  refine ⟨fun h0 => (by rw [hr] at h0; cases h0), ?_⟩
  rw [hr]
  intro j hj
  have : j = i := by simpa using hj
  subst this
  unfold wpOp
  simp only [hi]
  rw [if_pos (wanted_gy (o := ⟨d, op, ty, pos, aft, g⟩) hF hg)]
  exact .inl (hv a w hF hS _ _ fun x w' hx hS' => ⟨fun hh _ => (by rw [hl] at hh; cases hh), h x hx _ _ (hF.putE hd (r x)) hS'⟩)
end
end Go.Proofs.Ytljllahlnbkimaa
