/- Calls that write what the caller owns: contracts over entries handed in and handed back. No statement of the seat is proved here. -/
import Derived.Test.YtmkalfofmodbdaaSh
namespace Go.Proofs.Ytmkalfofmodbdaa
open Go Go.RowKit

/-- What the callee may write. -/
abbrev muOf (ins : List En) : Nat → Prop := fun k => k ∈ ins.filterMap En.blk

/-- The entries 'ins' stand in m; rest is what is left. -/
inductive FindL : List En → List En → List En → Prop
  | nil {m : List En} : FindL m [] m
  | step {m r r' ins : List En} {x : En} (h : m.Perm (x :: r)) (t : FindL r ins r') : FindL m (x :: ins) r'
theorem FindL.cells {m r r' ins : List En} {b : Nat} {T : TypeId} {c : List Value} [h : CellsI m b T c r] (t : FindL r ins r') : FindL m (.cells b T c :: ins) r' := .step h.perm t
theorem FindL.row {m r r' ins : List En} {v : Value} {T : TypeId} {sz : Nat} {ls : List (List Value)} [h : RowI m v T sz ls r] (t : FindL r ins r') : FindL m (.row v T sz ls :: ins) r' := .step h.perm t
theorem FindL.any {m r r' ins : List En} {x : En} [h : Rem m x r] (t : FindL r ins r') : FindL m (x :: ins) r' := .step h.perm t
theorem FindL.perm {m ins r : List En} (h : FindL m ins r) : m.Perm (ins ++ r) := by
  induction h with
  | nil => exact List.Perm.refl _
  | step h _ ih => exact h.trans (ih.cons _)

/-- What v reads as, by an entry of m. -/
class LdI (m : List En) (v : Value) (sz : outParam Nat) (ls : outParam (List (List Value))) : Prop where
  mem : En.ro v sz ls ∈ m ∨ ∃ T, En.row v T sz ls ∈ m
instance LdI.row {v : Value} {T : TypeId} {sz : Nat} {ls : List (List Value)} {m : List En} : LdI (.row v T sz ls :: m) v sz ls := ⟨.inr ⟨T, List.mem_cons_self ..⟩⟩
instance LdI.ro {v : Value} {sz : Nat} {ls : List (List Value)} {m : List En} : LdI (.ro v sz ls :: m) v sz ls := ⟨.inl (List.mem_cons_self ..)⟩
instance (priority := 900) LdI.there {v : Value} {sz : Nat} {ls : List (List Value)} {y : En} {m : List En} [h : LdI m v sz ls] : LdI (y :: m) v sz ls := ⟨h.mem.elim (fun h => .inl (List.mem_cons_of_mem _ h)) (fun ⟨T, h⟩ => .inr ⟨T, List.mem_cons_of_mem _ h⟩)⟩
/-! Entries set ahead of others. -/
instance CellsI.app {x : En} {l m : List En} {b : Nat} {T : TypeId} {c : List Value} {r : List En} [h : CellsI (x :: (l ++ m)) b T c r] : CellsI ((x :: l) ++ m) b T c r := ⟨h.perm⟩
instance CellsI.napp {m : List En} {b : Nat} {T : TypeId} {c : List Value} {r : List En} [h : CellsI m b T c r] : CellsI ([] ++ m) b T c r := ⟨h.perm⟩
instance RowI.app {x : En} {l m : List En} {v : Value} {T : TypeId} {sz : Nat} {ls : List (List Value)} {r : List En} [h : RowI (x :: (l ++ m)) v T sz ls r] : RowI ((x :: l) ++ m) v T sz ls r := ⟨h.perm⟩
instance RowI.napp {m : List En} {v : Value} {T : TypeId} {sz : Nat} {ls : List (List Value)} {r : List En} [h : RowI m v T sz ls r] : RowI ([] ++ m) v T sz ls r := ⟨h.perm⟩
instance RoI.app {x : En} {l m : List En} {v : Value} {sz : Nat} {ls : List (List Value)} {r : List En} [h : RoI (x :: (l ++ m)) v sz ls r] : RoI ((x :: l) ++ m) v sz ls r := ⟨h.perm⟩
instance RoI.napp {m : List En} {v : Value} {sz : Nat} {ls : List (List Value)} {r : List En} [h : RoI m v sz ls r] : RoI ([] ++ m) v sz ls r := ⟨h.perm⟩
instance RdI.app {x : En} {l m : List En} {v : Value} {sz : Nat} {ls : List (List Value)} [h : RdI (x :: (l ++ m)) v sz ls] : RdI ((x :: l) ++ m) v sz ls := ⟨h.rd⟩
instance RdI.napp {m : List En} {v : Value} {sz : Nat} {ls : List (List Value)} [h : RdI m v sz ls] : RdI ([] ++ m) v sz ls := ⟨h.rd⟩
instance LdI.app {x : En} {l m : List En} {v : Value} {sz : Nat} {ls : List (List Value)} [h : LdI (x :: (l ++ m)) v sz ls] : LdI ((x :: l) ++ m) v sz ls := ⟨h.mem⟩
instance LdI.napp {m : List En} {v : Value} {sz : Nat} {ls : List (List Value)} [h : LdI m v sz ls] : LdI ([] ++ m) v sz ls := ⟨h.mem⟩
instance Rem.app {x y : En} {l m r : List En} [h : Rem (x :: (l ++ m)) y r] : Rem ((x :: l) ++ m) y r := ⟨h.perm⟩
instance Rem.napp {y : En} {m r : List En} [h : Rem m y r] : Rem ([] ++ m) y r := ⟨h.perm⟩
instance SubI.app {x : En} {l m' m : List En} [h : SubI (x :: (l ++ m')) m] : SubI ((x :: l) ++ m') m := ⟨h.sub⟩
instance SubI.napp {m' m : List En} [h : SubI m' m] : SubI ([] ++ m') m := ⟨h.sub⟩
inductive LdL (m : List En) : List En → Prop
  | nil : LdL m []
  | cons {v : Value} {sz : Nat} {ls : List (List Value)} {r : List En} (h : En.ro v sz ls ∈ m ∨ ∃ T, En.row v T sz ls ∈ m) (t : LdL m r) : LdL m (.ro v sz ls :: r)
theorem LdL.ro {m : List En} {v : Value} {sz : Nat} {ls : List (List Value)} {r : List En} [h : LdI m v sz ls] (t : LdL m r) : LdL m (.ro v sz ls :: r) := .cons h.mem t

section
variable {w0 w w' : World} {mu : Nat → Prop} {m : List En}

theorem En.rdb_blk {v : Value} {sz : Nat} {ls : List (List Value)} {b : Nat} (h : (En.ro v sz ls).rdb = some b) : v.ownBlock = some b := by
  cases ls with
  | nil => cases h
  | cons y ys => exact h

/-- The state that a callee finds. -/
theorem St.lend {ins rest rd : List En} (h : St w0 mu (ins ++ rest) w) (hrd : LdL rest rd) (hins : ∀ x ∈ ins, x.rdb = none) : St w (muOf ins) (ins ++ rd) w := by
  have hnd : ∀ z ∈ rest, ∀ b, z.blk = some b → b ∉ ins.filterMap En.blk := by
    intro z hz b hzb hb
    have := h.nodup
    rw [List.filterMap_append] at this
    exact (List.nodup_append.1 this).2.2 b hb b (List.mem_filterMap.2 ⟨z, hz, hzb⟩) rfl
  have hlt := h.blk_lt
  have key : (∀ x ∈ rd, x.holds w) ∧ rd.filterMap En.blk = [] ∧ ∀ x ∈ rd, ∀ b, x.rdb = some b → b < w.heap.size ∧ ¬ muOf ins b := by
    induction hrd with
    | nil => exact ⟨by simp, rfl, by simp⟩
    | @cons v sz ls r hm _ ih =>
      refine ⟨fun x hx => ?_, by simpa [List.filterMap_cons, En.blk] using ih.2.1, fun x hx b hb => ?_⟩
      · rcases List.mem_cons.1 hx with rfl | hx
        · rcases hm with hm | ⟨T, hm⟩
          · exact h.holds _ (List.mem_append_right _ hm)
          · exact Own.rd (h.holds _ (List.mem_append_right _ hm))
        · exact ih.1 x hx
      · rcases List.mem_cons.1 hx with rfl | hx
        · rcases hm with hm | ⟨T, hm⟩
          · obtain ⟨h1, h2⟩ := h.ro _ (List.mem_append_right _ hm) b hb
            refine ⟨Nat.lt_of_lt_of_le h1 h.ext.size, fun hmu => ?_⟩
            rcases h.own b (by rw [List.filterMap_append]; exact List.mem_append_left _ hmu) with h3 | h3
            · omega
            · exact h2 h3
          · have hb' := En.rdb_blk hb
            exact ⟨hlt b (List.mem_filterMap.2 ⟨_, List.mem_append_right _ hm, hb'⟩), hnd _ hm b hb'⟩
        · exact ih.2.2 x hx b hb
  refine ⟨Ext.refl _ _, ?_, ?_, ?_, ?_⟩
  · intro x hx
    rcases List.mem_append.1 hx with hx | hx
    · exact h.holds x (List.mem_append_left _ hx)
    · exact key.1 x hx
  · rw [List.filterMap_append, key.2.1, List.append_nil]
    have := h.nodup
    rw [List.filterMap_append] at this
    exact (List.nodup_append.1 this).1
  · intro b hb
    rw [List.filterMap_append, key.2.1, List.append_nil] at hb
    exact .inr hb
  · intro x hx b hb
    rcases List.mem_append.1 hx with hx | hx
    · rw [hins x hx] at hb; cases hb
    · exact key.2.2 x hx b hb

/-- The caller's state behind it. -/
theorem St.swap {ins rest outs : List En} (h : St w0 mu (ins ++ rest) w) (h' : St w (muOf ins) outs w') (hro : ∀ y ∈ outs, y.rdb = none) : St w0 mu (outs ++ rest) w' := by
  have hnd : ∀ z ∈ rest, ∀ b, z.blk = some b → b ∉ ins.filterMap En.blk := by
    intro z hz b hzb hb
    have := h.nodup
    rw [List.filterMap_append] at this
    exact (List.nodup_append.1 this).2.2 b hb b (List.mem_filterMap.2 ⟨z, hz, hzb⟩) rfl
  have hlt := h.blk_lt
  have hown : ∀ b, muOf ins b → w0.heap.size ≤ b ∨ mu b := fun b hb => h.own b (by rw [List.filterMap_append]; exact List.mem_append_left _ hb)
  have hnr : ∀ z ∈ rest, ∀ b, z.rdb = some b → ¬ muOf ins b := by
    intro z hz b hzb hmu
    obtain ⟨h1, h2⟩ := h.ro z (List.mem_append_right _ hz) b hzb
    rcases hown b hmu with h3 | h3
    · omega
    · exact h2 h3
  refine ⟨?_, ?_, ?_, ?_, ?_⟩
  · refine ⟨h'.ext.os.trans h.ext.os, h'.ext.tape.trans h.ext.tape, h'.ext.output.trans h.ext.output, Nat.le_trans h.ext.size h'.ext.size, fun k hk hn => ?_⟩
    rw [h'.ext.block k (Nat.lt_of_lt_of_le hk h.ext.size) (fun hb => (hown k hb).elim (fun h1 => by omega) hn)]
    exact h.ext.block k hk hn
  · intro z hz
    rcases List.mem_append.1 hz with hz | hz
    · exact h'.holds z hz
    · exact En.keep (h.holds z (List.mem_append_right _ hz)) h'.ext (hnd z hz) (hnr z hz)
  · rw [List.filterMap_append]
    have hn := h.nodup
    rw [List.filterMap_append] at hn
    refine List.nodup_append.2 ⟨h'.nodup, (List.nodup_append.1 hn).2.1, fun a ha b hb hab => ?_⟩
    subst hab
    obtain ⟨z, hz, hzb⟩ := List.mem_filterMap.1 hb
    rcases h'.own a ha with h1 | h1
    · have := hlt a (by rw [List.filterMap_append]; exact List.mem_append_right _ hb)
      omega
    · exact hnd z hz a hzb h1
  · intro b hb
    rw [List.filterMap_append] at hb
    rcases List.mem_append.1 hb with hb | hb
    · rcases h'.own b hb with h1 | h1
      · exact .inl (Nat.le_trans h.ext.size h1)
      · exact hown b h1
    · exact h.own b (by rw [List.filterMap_append]; exact List.mem_append_right _ hb)
  · intro z hz b hzb
    rcases List.mem_append.1 hz with hz | hz
    · rw [hro z hz] at hzb; cases hzb
    · exact h.ro z (List.mem_append_right _ hz) b hzb
end

/-- A contract: the entries 'ins' are handed in, those of 'outs' are handed back; what stands in 'rd' is read. -/
def CM (P : Program) (f : FuncId) (vs : List Value) (w : World) (ins rd : List En) (ι : Type) (φ : ι → Prop) (r : ι → Value) (outs : ι → List En) : Prop :=
  St w (muOf ins) (ins ++ rd) w → Calls P f vs.toArray w fun en w' => ∃ x, en = .returned (r x) ∧ φ x ∧ St w (muOf ins) (outs x) w' ∧ ∀ y ∈ outs x, y.rdb = none
theorem CM.fin {w w' : World} {mu : Nat → Prop} {m : List En} {v : Value} {ι : Type} {φ : ι → Prop} {r : ι → Value} {outs : ι → List En} (hS : St w mu m w') (x : ι) (h : v = r x) (hp : φ x) (hs : SubM (outs x) m) (hr : ∀ y ∈ outs x, y.rdb = none) :
    ∃ x, Ending.returned v = .returned (r x) ∧ φ x ∧ St w mu (outs x) w' ∧ ∀ y ∈ outs x, y.rdb = none := ⟨x, by rw [h], hp, hS.subM hs, hr⟩

section
variable {C : Cx} {e : Env} {m : List En} {dst : Option Tmp} {ty : TypeId} {pos : String} {aft : Array Edge} {g : Option (Nat × Bool)}
theorem EF.callM {f : FuncId} {xs : List Operand} {vs : List Value} {ts : Array TypeId} {ι : Type} {φ : ι → Prop} {r : ι → Value} {ins rest rd : List En} {outs : ι → List En} (hv : EvL e xs vs)
    (hf : FindL m ins rest) (hl : LdL rest rd) (h : ∀ w, St C.w0 C.mu m w → CM C.P f vs w ins rd ι φ r outs) (hn : ∀ x ∈ ins, x.rdb = none) (hfi : FnI C.P f := by infer_instance) : EF C e m ⟨dst, .call ⟨.value (.func f), xs.toArray, ts⟩, ty, pos, aft, g⟩ ι φ r (fun x => outs x ++ rest) := by
  intro a w hF hS K Q hK
  have hS1 := hS.perm hf.perm
  refine oper_call hF hv (h w hS (hS1.lend hl hn)) ?_
  rintro en w' ⟨x, rfl, hx, h', hro⟩
  exact ⟨_, rfl, hK x w' hx (hS1.swap h' hro)⟩
end
end Go.Proofs.Ytmkalfofmodbdaa
