/- Rows of elements of more than one cell: made, written. No statement of the seat is proved here. -/
import Derived.Test.YtmkalfofmodbdaaSm
namespace Go.Proofs.Ytmkalfofmodbdaa
open Go Go.RowKit

theorem flatten_split (ls : List (List Value)) (i : Nat) (hi : i < ls.length) (x : List Value) : (ls.set i x).flatten = (ls.take i).flatten ++ x ++ (ls.drop (i + 1)).flatten := by
  rw [List.set_eq_take_append_cons_drop, if_pos hi]
  simp
theorem flatten_split0 (ls : List (List Value)) (i : Nat) (hi : i < ls.length) : ls.flatten = (ls.take i).flatten ++ ls[i] ++ (ls.drop (i + 1)).flatten := by
  have := flatten_split ls i hi ls[i]
  rwa [List.set_getElem_self] at this

theorem run_storeCells_at {P : Program} {T' : TypeId} : ∀ (vs : List Value) (w : World) (b off i : Nat) (c : List Value), w.heap[b]? = some (.cells c.toArray T' (0, 0)) → off + i + vs.length ≤ c.length → (∀ v ∈ vs, v.oneCell' = true) →
    ∃ w', (storeCells ⟨b, off, none⟩ vs i).run P w = .ok () w' ∧ w'.heap[b]? = some (.cells (c.take (off + i) ++ vs ++ c.drop (off + i + vs.length)).toArray T' (0, 0)) ∧ Ext w w' (fun k => k = b)
  | [], w, b, off, i, c, hb, _, _ => ⟨w, by simp [storeCells], by simpa using hb, Ext.refl _ _⟩
  | v :: vs, w, b, off, i, c, hb, hl, h1 => by
    have hlt : off + i < c.length := by simp at hl; omega
    have hadd : (⟨b, off, none⟩ : Addr).add i = ⟨b, off + i, none⟩ := by unfold Addr.add; split <;> simp_all
    have hc : w.cell? ⟨b, off + i, none⟩ = some c[off + i] := by rw [cell_of_row w b (off + i) _ T' (0, 0) hb]; simp [hlt]
    have hfz := frozen_of_row w b (off + i) _ T' hb
    obtain ⟨w', hr, hh, hx⟩ := run_storeCells_at (P := P) vs (w.setCell ⟨b, off + i, none⟩ v) b off (i + 1) (c.set (off + i) v) (setCell_row hb v) (by simp at hl ⊢; omega) (fun u hu => h1 u (by simp [hu]))
    refine ⟨w', ?_, ?_, (Ext.setCell w _ v).trans hx⟩
    · simp [storeCells, hadd, run_store _ _ _ _ _ (h1 v (by simp)), hc, hfz, hr]
    · rw [hh]
      congr 3
      have e1 : (c.set (off + i) v).take (off + (i + 1)) = c.take (off + i) ++ [v] := by
        rw [← Nat.add_assoc, List.take_succ_eq_append_getElem (by simpa using hlt)]
        simp [List.take_set_of_le]
      have e2 : (c.set (off + i) v).drop (off + (i + 1) + vs.length) = c.drop (off + i + (v :: vs).length) := by
        rw [List.drop_set_of_lt (by omega)]
        congr 1
        simp; omega
      rw [e1, e2]
      simp

section
variable {C : Cx} {e : Env} {m : List En} {dst : Option Tmp} {ty : TypeId} {pos : String} {aft : Array Edge} {g : Option (Nat × Bool)}

/-- What stands of a row that is owned and not empty. -/
theorem Own.parts {w : World} {u : Value} {T : TypeId} {sz : Nat} {ls : List (List Value)} (h : Own w u T sz ls) {i : Nat} (hi : i < ls.length) :
    ∃ gb cap cur, u = .slice (some ⟨gb, 0, none⟩) ls.length cap ∧ w.heap[gb]? = some (.cells cur T (0, 0)) ∧ (∃ tl, cur.toList = ls.flatten ++ tl) ∧
      ∀ w' (ls' : List (List Value)) (cur' : Array Value), w'.heap[gb]? = some (.cells cur' T (0, 0)) → ls'.length = ls.length → (∀ y ∈ ls', y.length = sz) → cur'.size = cur.size → (∃ tl, cur'.toList = ls'.flatten ++ tl) → Own w' u T sz ls' := by
  rcases h.owns.2 with ⟨_, hz⟩ | ⟨gb, cap, cur, hv, hb0, hg, hnc, hcm, hcs, ht⟩
  · omega
  · have hfl := flatten_len ls h.size
    refine ⟨gb, cap, cur, hv, hg, ⟨cur.toList.drop (ls.length * sz), ?_⟩, ?_⟩
    · rw [← ht, List.take_append_drop]
    · rintro w' ls' cur' hg' hl hs hsz ⟨tl, htl⟩
      have hfl' := flatten_len ls' hs
      refine ⟨hs, hfl', .inr ⟨gb, cap, cur', by rw [hl]; exact hv, Nat.zero_le _, hg', by rw [hl]; exact hnc, hcm, by rw [hsz]; exact hcs, ?_⟩⟩
      rw [htl, ← hfl', List.take_left]

/-- A store of one cell into a field of an element of a row that is owned. -/
theorem EF.storeEF {T T' : TypeId} [h : OneC C.P T] {x y : Operand} {u v : Value} {i f n sz sz' : Nat} {ls : List (List Value)} {r : List En} {z : List Value} (hx : ev e x = some (pe u sz' i f)) [hm : RowI m u T' sz ls r] (hy : ev e y = some v) [h1 : OneV m v] [hn : LenI ls n] (hlt : i < n) (hsz : sz = sz') (hf : f < sz') [he : ElI ls i z] :
    EF C e m ⟨dst, .store T x y, ty, pos, aft, g⟩ Unit (fun _ => True) (fun _ => undef) (fun _ => .row u T' sz (ls.set i (z.set f v)) :: r) := by
  subst hsz
  intro a w hF hS K Q hK
  have e2 := hn.eq
  subst e2
  have hS' := hS.perm hm.perm
  have hown : Own w u T' sz ls := hS'.holds _ (List.mem_cons_self ..)
  obtain ⟨gb, cap, cur, hv, hg, ⟨tl, htl⟩, hrow⟩ := hown.parts hlt
  have hz : ls[i] = z := by have := he.eq hlt; simpa [hlt] using this
  have hzl : z.length = sz := by rw [← hz]; exact hown.size _ (List.getElem_mem _)
  have hsp := flatten_split0 ls i hlt
  rw [hz] at hsp
  have hpre : (ls.take i).flatten.length = i * sz := by
    rw [flatten_len (sz := sz) _ (fun y hy => hown.size y (List.mem_of_mem_take hy)), List.length_take]
    congr 1; omega
  have hi2 : i * sz + f < cur.size := by
    rw [← Array.length_toList, htl, hsp]
    simp only [List.length_append, hpre, hzl]; omega
  have hc : w.cell? ⟨gb, i * sz + f, none⟩ = some cur[i * sz + f] := by rw [cell_of_row w gb _ _ T' (0, 0) hg]; simp [hi2]
  have hfz := frozen_of_row w gb (i * sz + f) _ T' hg
  unfold pe at hx
  have hx' : a.eval x = .pointer (some ⟨gb, i * sz + f, none⟩) := by
    rw [hF.ev hx, hv]; simp [gOf, oOf]
  unfold Oper.wp
  simp only [execOp, hx', hF.ev hy, Instr.storeAt, Instr.sureAddr, Sem.run_bind, Sem.run_pure, Result.andThen_ok, run_storeVar_one (T := T) (h1.one hS) hc hfz, Oper.upon]
  refine hK () _ trivial (hS'.write (x := .row u T' sz ls) ((Ext.setCell w _ v).mono fun k _ hk => by rw [hv]; simp [En.blk, Value.ownBlock, hk]) ?_ (fun b' hb' => .inl hb') rfl)
  refine hrow _ _ (cur.setIfInBounds (i * sz + f) v) (heap_setCell_same w gb _ cur T' v hg) (by simp) ?_ (by simp) ⟨tl, ?_⟩
  · intro y hy
    rcases List.mem_or_eq_of_mem_set hy with h2 | h2
    · exact hown.size y h2
    · rw [h2]; simpa using hzl
  · rw [Array.toList_setIfInBounds, htl, flatten_split ls i hlt, hsp]
    rw [List.append_assoc, List.append_assoc, List.set_append_right _ _ (by omega), hpre, Nat.add_sub_cancel_left, List.set_append_left _ _ (by omega)]
    simp

/-- A store of a whole struct into an element of a row that is owned. -/
theorem EF.storeEA {T T' : TypeId} {zz : List Value} [h : FlatI C.P T zz] {x y : Operand} {u : Value} {i n sz sz' : Nat} {ls : List (List Value)} {r : List En} {vs : List Value} (hx : ev e x = some (pe u sz' i 0)) [hm : RowI m u T' sz ls r] (hy : ev e y = some (.agg vs.toArray)) [h1 : OneVs m vs] [hn : LenI ls n] (hlt : i < n) (hsz : sz = sz') (hl : Nat.beq sz zz.length = true) (hl' : Nat.beq vs.length zz.length = true) :
    EF C e m ⟨dst, .store T x y, ty, pos, aft, g⟩ Unit (fun _ => True) (fun _ => undef) (fun _ => .row u T' sz (ls.set i vs) :: r) := by
  subst hsz
  intro a w hF hS K Q hK
  have e2 := hn.eq
  subst e2
  have f1 := Nat.eq_of_beq_eq_true hl
  have f2 := Nat.eq_of_beq_eq_true hl'
  have hS' := hS.perm hm.perm
  have hown : Own w u T' sz ls := hS'.holds _ (List.mem_cons_self ..)
  obtain ⟨gb, cap, cur, hv, hg, ⟨tl, htl⟩, hrow⟩ := hown.parts hlt
  have hsp := flatten_split0 ls i hlt
  have hxl : ls[i].length = sz := hown.size _ (List.getElem_mem _)
  have hpre : (ls.take i).flatten.length = i * sz := by
    rw [flatten_len (sz := sz) _ (fun y hy => hown.size y (List.mem_of_mem_take hy)), List.length_take]
    congr 1; omega
  have hcl : i * sz + 0 + vs.length ≤ cur.toList.length := by
    rw [htl, hsp]
    simp only [List.length_append, hpre, hxl]; omega
  obtain ⟨w', hr, hh, hx'⟩ := run_storeCells_at (P := C.P) vs w gb (i * sz) 0 cur.toList (by simpa using hg) hcl (fun v hv => (h1.one hS v hv).2)
  unfold pe at hx
  have hx2 : a.eval x = .pointer (some ⟨gb, i * sz, none⟩) := by
    rw [hF.ev hx, hv]; simp [gOf, oOf]
  unfold Oper.wp
  simp only [execOp, hx2, hF.ev hy, Instr.storeAt, Instr.sureAddr, storeVar, Value.cells, Sem.run_bind, Sem.run_pure, Result.andThen_ok, run_sizeOf_flat (T := T), List.size_toArray, f2, ne_eq, not_true_eq_false, if_false, hr, Oper.upon]
  refine hK () _ trivial (hS'.write (x := .row u T' sz ls) (y := .row u T' sz (ls.set i vs)) (hx'.mono fun k _ hk => by rw [hv]; simp [En.blk, Value.ownBlock, hk]) ?_ (fun b' hb' => .inl hb') rfl)
  refine hrow _ _ _ hh (by simp) ?_ (by simp at hcl ⊢; omega) ⟨tl, ?_⟩
  · intro y hy
    rcases List.mem_or_eq_of_mem_set hy with h2 | h2
    · exact hown.size y h2
    · rw [h2]; omega
  · rw [flatten_split ls i hlt, htl, hsp]
    simp only [Nat.add_zero]
    rw [List.append_assoc ((ls.take i).flatten ++ ls[i]), List.append_assoc (ls.take i).flatten ls[i], List.take_left' hpre]
    have : ((ls.take i).flatten ++ (ls[i] ++ ((ls.drop (i + 1)).flatten ++ tl))).drop (i * sz + vs.length) = (ls.drop (i + 1)).flatten ++ tl := by
      rw [← List.append_assoc, List.drop_left' (by rw [List.length_append, hpre, hxl]; omega)]
    rw [this]
    simp

/-- `make([]T, n)`, elements of more cells. -/
theorem EF.makeW {T E : TypeId} {z : Value} {by_ sz : Nat} [hT : SlI C.P T E z sz by_] {x y : Operand} {i i' : Int} {n n' : Nat} {zs : List Value} (hx : ev e x = some (.int .i64 i)) (hy : ev e y = some (.int .i64 i')) [hn : ToN i n] [hn' : ToN i' n'] (he : n = n') (hz1 : z.cells = zs.toArray) (hb : n ≤ 5000000000000) : EF C e m ⟨dst, .makeSlice T x y, ty, pos, aft, g⟩ Value (fun _ => True) (fun v => v) (fun s => .row s E sz (List.replicate n zs) :: m) := by
  subst he
  intro a w hF hS K Q hK
  have e1 := hn.eq
  have e2 := hn'.eq
  subst e1 e2
  have hr := run_makeSlice (P := C.P) (T := T) w n n (Nat.le_refl _) hb
  have hzl : zs.length = sz := by have := hT.zs; rw [hz1] at this; simpa using this
  have hpos := hT.pos
  unfold Oper.wp
  simp only [execOp, hF.ev hx, hF.ev hy, Sem.run_bind, Sem.run_pure, hr, Result.andThen_ok, Oper.upon]
  refine hK _ _ trivial (hS.allocR E sz n n (List.replicate n zs) _ (fun x hx => by rw [List.eq_of_mem_replicate hx]; exact hzl) (by simp) (Nat.le_refl _) (by unfold maxLen; omega) (by simp) ?_)
  rw [hz1]
  have key : ∀ k : Nat, (List.range (k * sz)).map (fun j => zs.toArray[j % zs.toArray.size]!) = (List.replicate k zs).flatten := by
    intro k
    induction k with
    | zero => simp
    | succ k ih =>
      have hh : (List.range (k * sz + sz)).map (fun j => zs.toArray[j % zs.toArray.size]!) = (List.range (k * sz)).map (fun j => zs.toArray[j % zs.toArray.size]!) ++ zs := by
        rw [List.range_add, List.map_append]
        congr 1
        rw [List.map_map]
        apply List.ext_getElem
        · simp [hzl]
        · intro j h1 h2
          have hj : j < sz := by simpa using h1
          simp [hzl, Nat.mod_eq_of_lt hj, hj]
      rw [Nat.succ_mul, hh, ih, List.replicate_succ']
      simp
  rw [Array.toList_map, Array.toList_range, key n]
  have hfl := flatten_len (sz := sz) (List.replicate n zs) (fun y hy => by rw [List.eq_of_mem_replicate hy]; exact hzl)
  rw [List.length_replicate] at hfl
  rw [← hfl]
  exact List.take_length
end
end Go.Proofs.Ytmkalfofmodbdaa
