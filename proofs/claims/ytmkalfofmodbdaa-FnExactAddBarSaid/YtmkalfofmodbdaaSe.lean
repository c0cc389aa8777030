/- Rules for the operations that make or write memory, for calls and for results. No statement of the seat is proved here. -/
import Derived.Test.YtmkalfofmodbdaaSr
namespace Go.Proofs.Ytmkalfofmodbdaa
open Go Go.RowKit

theorem blk_alloc (w : World) (o : Obj) : (w.alloc o).heap[w.heap.size]? = some o := Go.heap_alloc_new w o

section
variable {w0 w : World} {mu : Nat → Prop} {m : List En}
theorem St.allocC (h : St w0 mu m w) (T : TypeId) (c : List Value) : St w0 mu (.cells w.heap.size T c :: m) (w.alloc (.cells c.toArray T)) :=
  h.add (Ext.alloc w _ _) (blk_alloc w _) (fun b hb => by cases hb; exact Nat.le_refl _) rfl
theorem St.permR {r : List En} {x : En} (h : St w0 mu m w) (hp : m.Perm (x :: r)) : St w0 mu (x :: r) w := h.perm hp
/-- A new row. -/
theorem St.allocR (h : St w0 mu m w) (E : TypeId) (sz n cap : Nat) (ls : List (List Value)) (c : Array Value) (hs : ∀ x ∈ ls, x.length = sz) (hn : n = ls.length) (hcap : n ≤ cap) (hcm : cap ≤ maxLen) (hc : c.size = cap * sz) (ht : c.toList.take (n * sz) = ls.flatten) :
    St w0 mu (.row (.slice (some ⟨w.heap.size, 0, none⟩) n cap) E sz ls :: m) (w.alloc (.cells c E)) := by
  subst hn
  refine h.add (Ext.alloc w _ _) ⟨hs, ?_, .inr ⟨w.heap.size, cap, c, rfl, Nat.zero_le _, blk_alloc w _, hcap, hcm, hc, ht⟩⟩ (fun b hb => by simp [En.blk, Value.ownBlock] at hb; omega) rfl
  have := Nat.mul_le_mul_right sz hcap
  have e1 : ls.flatten.length = min (ls.length * sz) c.toList.length := by rw [← ht, List.length_take]
  have e2 : c.toList.length = cap * sz := by rw [Array.length_toList, hc]
  rw [e2] at e1
  rw [e1]
  exact Nat.min_eq_left this
theorem setCell_row {w : World} {b off : Nat} {T : TypeId} {c : List Value} (hb : w.heap[b]? = some (.cells c.toArray T (0, 0))) (v : Value) : (w.setCell ⟨b, off, none⟩ v).heap[b]? = some (.cells (c.set off v).toArray T (0, 0)) := by
  have h := heap_setCell_same w b off c.toArray T v hb
  simpa using h
theorem Ext.setCell (w : World) (a : Addr) (v : Value) : Ext w (w.setCell a v) (fun k => k = a.block) :=
  ⟨rfl, rfl, rfl, by simp [World.setCell], fun k _ hn => Below.heap_setCell _ _ _ _ hn⟩
end

section
variable {C : Cx} {e : Env} {m : List En} {dst : Option Tmp} {ty : TypeId} {pos : String} {aft : Array Edge} {g : Option (Nat × Bool)}

theorem EF.box1 {T : TypeId} {x : Operand} {v : Value} (hx : ev e x = some v) [h1 : OneV m v] : EF C e m ⟨dst, .box T x, ty, pos, aft, g⟩ Nat (fun _ => True) (fun b => .pointer (some ⟨b, 0, none⟩)) (fun b => .cells b T [v] :: m) := by
  intro a w hF hS K Q hK
  have h2 := (h1.one hS).1
  unfold Oper.wp
  simp only [execOp, hF.ev hx, Instr.box, newVar, newRow, h2, Sem.run_bind, Sem.run_pure, run_newObj, Result.andThen_ok, Oper.upon]
  exact hK w.heap.size _ trivial (hS.allocC T [v])
theorem EF.boxA {T : TypeId} {x : Operand} {c : List Value} (hx : ev e x = some (.agg c.toArray)) : EF C e m ⟨dst, .box T x, ty, pos, aft, g⟩ Nat (fun _ => True) (fun b => .pointer (some ⟨b, 0, none⟩)) (fun b => .cells b T c :: m) := by
  intro a w hF hS K Q hK
  unfold Oper.wp
  simp only [execOp, hF.ev hx, Instr.box, newVar, newRow, Value.cells, Sem.run_bind, Sem.run_pure, run_newObj, Result.andThen_ok, Oper.upon]
  exact hK w.heap.size _ trivial (hS.allocC T c)
theorem EF.allocA {T : TypeId} {z : List Value} [h : FlatI C.P T z] : EF C e m ⟨dst, .alloc T, ty, pos, aft, g⟩ Nat (fun _ => True) (fun b => .pointer (some ⟨b, 0, none⟩)) (fun b => .cells b T z :: m) := by
  intro a w hF hS K Q hK
  obtain ⟨i, hi, hz, _⟩ := h.size
  unfold Oper.wp
  simp only [execOp, Instr.alloc, zeroValue, typeInfo, hi, hz, newVar, newRow, Value.cells, Sem.run_bind, Sem.run_pure, run_newObj, run_program, Result.andThen_ok, Oper.upon]
  exact hK w.heap.size _ trivial (hS.allocC T z)
theorem EF.alloc1 {T : TypeId} {z : Value} [h : ZeroI C.P T z] (hz1 : z.cells = #[z]) : EF C e m ⟨dst, .alloc T, ty, pos, aft, g⟩ Nat (fun _ => True) (fun b => .pointer (some ⟨b, 0, none⟩)) (fun b => .cells b T [z] :: m) := by
  intro a w hF hS K Q hK
  obtain ⟨i, hi, hz⟩ := Option.map_eq_some_iff.1 h.info
  unfold Oper.wp
  simp only [execOp, Instr.alloc, zeroValue, typeInfo, hi, hz, newVar, newRow, hz1, Sem.run_bind, Sem.run_pure, run_newObj, run_program, Result.andThen_ok, Oper.upon]
  exact hK w.heap.size _ trivial (hS.allocC T [z])

theorem run_storeVar_one {P : Program} {T : TypeId} [h : OneC P T] {w : World} {a : Addr} {v u : Value} (hv : v.cells = #[v] ∧ v.oneCell' = true) (hc : w.cell? a = some u) (hf : w.frozen? a = false) : (storeVar T a v).run P w = .ok () (w.setCell a v) := by
  have hadd : a.add 0 = a := rfl
  simp [storeVar, hv.1, run_sizeOf_one (T := T), storeCells, run_store _ _ _ _ _ hv.2, hadd, hc, hf]

/-- A store of one cell into a variable. -/
theorem EF.storeC {T T' : TypeId} [h : OneC C.P T] {x y : Operand} {b off : Nat} {c : List Value} {r : List En} {v : Value} {c' : List Value} [hm : CellsI m b T' c r] (hx : ev e x = some (.pointer (some ⟨b, off, none⟩))) (hy : ev e y = some v) [h1 : OneV m v] (hlt : Nat.blt off c.length = true) [hc' : SetI c off v c'] :
    EF C e m ⟨dst, .store T x y, ty, pos, aft, g⟩ Unit (fun _ => True) (fun _ => undef) (fun _ => .cells b T' c' :: r) := by
  have hset := hc'.eq
  subst hset
  intro a w hF hS K Q hK
  have hS' := hS.perm hm.perm
  have hb : w.heap[b]? = some (.cells c.toArray T' (0, 0)) := hS'.holds _ (List.mem_cons_self ..)
  have hlt' : off < c.length := by simpa [Nat.blt_eq] using hlt
  have hc : w.cell? ⟨b, off, none⟩ = some c[off] := by rw [cell_of_row w b off _ T' (0, 0) hb]; simp [hlt']
  have hfz := frozen_of_row w b off _ T' hb
  unfold Oper.wp
  simp only [execOp, hF.ev hx, hF.ev hy, Instr.storeAt, Instr.sureAddr, Sem.run_bind, Sem.run_pure, Result.andThen_ok, run_storeVar_one (T := T) (h1.one hS) hc hfz, Oper.upon]
  refine hK () _ trivial (hS'.write (x := .cells b T' c) ((Ext.setCell w _ v).mono fun k _ hk => by simp [En.blk, hk]) (setCell_row hb v) (fun b' hb' => .inl hb') rfl)

theorem run_storeCells_whole {P : Program} {T' : TypeId} : ∀ (vs : List Value) (w : World) (b i : Nat) (c : List Value), w.heap[b]? = some (.cells c.toArray T' (0, 0)) → i + vs.length ≤ c.length → (∀ v ∈ vs, v.oneCell' = true) →
    ∃ w', (storeCells ⟨b, 0, none⟩ vs i).run P w = .ok () w' ∧ w'.heap[b]? = some (.cells (c.take i ++ vs ++ c.drop (i + vs.length)).toArray T' (0, 0)) ∧ Ext w w' (fun k => k = b)
  | [], w, b, i, c, hb, _, _ => ⟨w, by simp [storeCells], by simpa using hb, Ext.refl _ _⟩
  | v :: vs, w, b, i, c, hb, hl, h1 => by
    have hlt : i < c.length := by simp at hl; omega
    have hadd : (⟨b, 0, none⟩ : Addr).add i = ⟨b, i, none⟩ := by unfold Addr.add; split <;> simp_all
    have hc : w.cell? ⟨b, i, none⟩ = some c[i] := by rw [cell_of_row w b i _ T' (0, 0) hb]; simp [hlt]
    have hfz := frozen_of_row w b i _ T' hb
    obtain ⟨w', hr, hh, hx⟩ := run_storeCells_whole (P := P) vs (w.setCell ⟨b, i, none⟩ v) b (i + 1) (c.set i v) (setCell_row hb v) (by simp at hl ⊢; omega) (fun u hu => h1 u (by simp [hu]))
    refine ⟨w', ?_, ?_, (Ext.setCell w _ v).trans hx⟩
    · simp [storeCells, hadd, run_store _ _ _ _ _ (h1 v (by simp)), hc, hfz, hr]
    · rw [hh]
      congr 3
      have e1 : (c.set i v).take (i + 1) = c.take i ++ [v] := by
        rw [List.take_succ_eq_append_getElem (by simpa using hlt)]
        simp [List.take_set_of_le]
      have e2 : (c.set i v).drop (i + 1 + vs.length) = c.drop (i + (v :: vs).length) := by
        rw [List.drop_set_of_lt (by omega)]
        congr 1
        simp; omega
      rw [e1, e2]
      simp

/-- All values of a list are of one cell. -/
class OneVs (m : List En) (vs : List Value) : Prop where
  one : ∀ {w0 w : World} {mu : Nat → Prop}, St w0 mu m w → ∀ v ∈ vs, v.cells = #[v] ∧ v.oneCell' = true
instance OneVs.nil {m : List En} : OneVs m [] := ⟨fun _ _ h => by cases h⟩
instance OneVs.cons {m : List En} {v : Value} {vs : List Value} [h : OneV m v] [t : OneVs m vs] : OneVs m (v :: vs) := ⟨fun hs u hu => by
  rcases List.mem_cons.1 hu with rfl | hu
  · exact h.one hs
  · exact t.one hs u hu⟩
theorem oneVs_set {m : List En} {v : Value} {vs : List Value} {i : Nat} (h : OneV m v) (t : OneVs m vs) : OneVs m (vs.set i v) := ⟨fun hs u hu => by
  rcases List.mem_or_eq_of_mem_set hu with hu | rfl
  · exact t.one hs u hu
  · exact h.one hs⟩
instance OneVs.set {m : List En} {v : Value} {vs : List Value} {i : Nat} [h : OneV m v] [t : OneVs m vs] : OneVs m (vs.set i v) := oneVs_set h t
instance OneVs.bv {m : List En} {x : Int × Int} : OneVs m (bv x) := ⟨fun _ v hv => by
  simp only [Proofs.Ytmkalfofmodbdaa.bv, List.mem_cons, List.mem_nil_iff, or_false] at hv
  rcases hv with rfl | rfl <;> exact ⟨rfl, rfl⟩⟩

/-- A store of a whole struct into a variable. -/
theorem EF.storeA {T T' : TypeId} {z : List Value} [h : FlatI C.P T z] {x y : Operand} {b : Nat} {c vs : List Value} {r : List En} [hm : CellsI m b T' c r] (hx : ev e x = some (.pointer (some ⟨b, 0, none⟩))) (hy : ev e y = some (.agg vs.toArray)) [h1 : OneVs m vs] (hl : Nat.beq c.length z.length = true) (hl' : Nat.beq vs.length z.length = true) :
    EF C e m ⟨dst, .store T x y, ty, pos, aft, g⟩ Unit (fun _ => True) (fun _ => undef) (fun _ => .cells b T' vs :: r) := by
  intro a w hF hS K Q hK
  have hS' := hS.perm hm.perm
  have hb : w.heap[b]? = some (.cells c.toArray T' (0, 0)) := hS'.holds _ (List.mem_cons_self ..)
  have e1 := Nat.eq_of_beq_eq_true hl
  have e2 := Nat.eq_of_beq_eq_true hl'
  obtain ⟨w', hr, hh, hx'⟩ := run_storeCells_whole (P := C.P) vs w b 0 c hb (by omega) (fun v hv => (h1.one hS v hv).2)
  have hfin : c.take 0 ++ vs ++ c.drop (0 + vs.length) = vs := by
    have : c.drop (0 + vs.length) = [] := List.drop_eq_nil_of_le (by omega)
    rw [this]; simp
  rw [hfin] at hh
  unfold Oper.wp
  simp only [execOp, hF.ev hx, hF.ev hy, Instr.storeAt, Instr.sureAddr, storeVar, Value.cells, Sem.run_bind, Sem.run_pure, Result.andThen_ok, run_sizeOf_flat (T := T), List.size_toArray, e2, ne_eq, not_true_eq_false, if_false, hr, Oper.upon]
  exact hK () _ trivial (hS'.write (x := .cells b T' c) (y := .cells b T' vs) (hx'.mono fun k _ hk => by simp [En.blk, hk]) hh (fun b' hb' => .inl hb') rfl)

theorem flatten_set1 : ∀ (ls : List (List Value)) (i : Nat) (v : Value), (∀ y ∈ ls, y.length = 1) → (ls.set i [v]).flatten = ls.flatten.set i v
  | [], i, v, _ => by simp
  | y :: ls, i, v, hs => by
    have hy : y.length = 1 := hs y (by simp)
    match y, hy with
    | [u], _ =>
      cases i with
      | zero => simp
      | succ i =>
        have ih := flatten_set1 ls i v (fun z hz => hs z (by simp [hz]))
        simp [ih]

/-- A store of one cell into a row that is owned, elements of one cell. -/
theorem EF.storeE {T T' : TypeId} [h : OneC C.P T] {x y : Operand} {u v : Value} {i n sz : Nat} {ls : List (List Value)} {r : List En} (hx : ev e x = some (pe u 1 i 0)) [hm : RowI m u T' sz ls r] (hy : ev e y = some v) [h1 : OneV m v] [hn : LenI ls n] (hlt : i < n) (hsz : sz = 1) :
    EF C e m ⟨dst, .store T x y, ty, pos, aft, g⟩ Unit (fun _ => True) (fun _ => undef) (fun _ => .row u T' 1 (ls.set i [v]) :: r) := by
  subst hsz
  intro a w hF hS K Q hK
  have e2 := hn.eq
  subst e2
  have hS' := hS.perm hm.perm
  have hown : Own w u T' 1 ls := hS'.holds _ (List.mem_cons_self ..)
  rcases hown.owns.2 with ⟨_, hz⟩ | ⟨gb, cap, cur, hv, hb0, hg, hnc, hcm, hcs, ht⟩
  · omega
  · subst hv
    have hfl : ls.flatten.length = ls.length := by have := hown.owns.1; omega
    have hi2 : i < cur.size := by omega
    have hc : w.cell? ⟨gb, i, none⟩ = some cur[i] := by rw [cell_of_row w gb i _ T' (0, 0) hg]; simp [hi2]
    have hfz := frozen_of_row w gb i _ T' hg
    unfold pe at hx
    have hx' : a.eval x = .pointer (some ⟨gb, i, none⟩) := by
      rw [hF.ev hx]; simp [gOf, oOf]
    unfold Oper.wp
    simp only [execOp, hx', hF.ev hy, Instr.storeAt, Instr.sureAddr, Sem.run_bind, Sem.run_pure, Result.andThen_ok, run_storeVar_one (T := T) (h1.one hS) hc hfz, Oper.upon]
    refine hK () _ trivial (hS'.write (x := .row _ T' 1 ls) ((Ext.setCell w _ v).mono fun k _ hk => by simp [En.blk, Value.ownBlock, hk]) ?_ (fun b' hb' => .inl hb') rfl)
    have hsz1 : ∀ y ∈ ls.set i [v], y.length = 1 := fun y hy => by
      rcases List.mem_or_eq_of_mem_set hy with h2 | h2
      · exact hown.size y h2
      · rw [h2]; rfl
    have hfs := flatten_set1 ls i v hown.size
    refine ⟨hsz1, ?_, .inr ⟨gb, cap, cur.setIfInBounds i v, by simp, Nat.zero_le _, ?_, by simpa using hnc, hcm, by simpa using hcs, ?_⟩⟩
    · rw [hfs, List.length_set, List.length_set, hfl]; omega
    · exact heap_setCell_same w gb i cur T' v hg
    · rw [hfs, ← ht, List.length_set, Array.toList_setIfInBounds, List.take_set]
end
end Go.Proofs.Ytmkalfofmodbdaa
