/- Rules for append, slices that are made, structs that are built, strings out of bytes, calls, results. No statement of the seat is proved here. -/
import Derived.Test.YtmkalfofmodbdaaSe
namespace Go.Proofs.Ytmkalfofmodbdaa
open Go Go.RowKit

theorem addr_add (b o j : Nat) : (⟨b, o, none⟩ : Addr).add j = ⟨b, o + j, none⟩ := by
  unfold Addr.add
  split
  · rename_i h; subst h; rfl
  · rfl
theorem flatten_at {sz : Nat} : ∀ (ls : List (List Value)) (j : Nat) (u : Value), (∀ y ∈ ls, y.length = sz) → ls.flatten[j]? = some u → ∃ i x f, ls[i]? = some x ∧ x[f]? = some u ∧ j = i * sz + f
  | [], j, u, _, h => by simp at h
  | y :: ls, j, u, hs, h => by
    have hy : y.length = sz := hs y (by simp)
    simp only [List.flatten_cons] at h
    by_cases hj : j < y.length
    · rw [List.getElem?_append_left hj] at h
      exact ⟨0, y, j, rfl, h, by omega⟩
    · rw [List.getElem?_append_right (by omega)] at h
      obtain ⟨i, x, f, h1, h2, h3⟩ := flatten_at ls (j - y.length) u (fun z hz => hs z (by simp [hz])) h
      exact ⟨i + 1, x, f, by simpa using h1, h2, by rw [Nat.succ_mul]; omega⟩
theorem flatten_len {sz : Nat} : ∀ (ls : List (List Value)), (∀ y ∈ ls, y.length = sz) → ls.flatten.length = ls.length * sz
  | [], _ => by simp
  | y :: ls, hs => by
    have hy : y.length = sz := hs y (by simp)
    have ih := flatten_len ls (fun z hz => hs z (by simp [hz]))
    rw [List.flatten_cons, List.length_append, ih, hy, List.length_cons, Nat.succ_mul]; omega

class OneL (m : List En) (ls : List (List Value)) : Prop where
  one : ∀ {w0 w : World} {mu : Nat → Prop}, St w0 mu m w → ∀ x ∈ ls, ∀ v ∈ x, v.oneCell' = true
instance OneL.nil {m : List En} : OneL m [] := ⟨fun _ _ h => by cases h⟩
instance OneL.cons {m : List En} {x : List Value} {ls : List (List Value)} [h : OneVs m x] [t : OneL m ls] : OneL m (x :: ls) := ⟨fun hs y hy v hv => by
  rcases List.mem_cons.1 hy with rfl | hy
  · exact (h.one hs v hv).2
  · exact t.one hs y hy v hv⟩
instance OneL.app {m : List En} {a b : List (List Value)} [h : OneL m a] [t : OneL m b] : OneL m (a ++ b) := ⟨fun hs y hy v hv => by
  rcases List.mem_append.1 hy with hy | hy
  · exact h.one hs y hy v hv
  · exact t.one hs y hy v hv⟩
theorem OneL.of_map {α : Type} {f : α → List Value} (hf : ∀ a, ∀ v ∈ f a, v.oneCell' = true) {m : List En} {l : List α} : OneL m (l.map f) := ⟨fun _ y hy v hv => by
  obtain ⟨a, _, rfl⟩ := List.mem_map.1 hy
  exact hf a v hv⟩
instance OneL.iv {m : List En} {l : List Int} : OneL m (l.map iv) := .of_map fun a v hv => by simp [Proofs.Ytmkalfofmodbdaa.iv] at hv; subst hv; rfl
instance OneL.bv {m : List En} {l : List (Int × Int)} : OneL m (l.map bv) := .of_map fun a v hv => by simp [Proofs.Ytmkalfofmodbdaa.bv] at hv; rcases hv with rfl | rfl <;> rfl
instance OneL.yv {m : List En} {l : List UInt8} : OneL m (l.map yv) := .of_map fun a v hv => by simp [Proofs.Ytmkalfofmodbdaa.yv] at hv; subst hv; rfl
instance OneL.tv {m : List En} {l : List Bool} : OneL m (l.map tv) := .of_map fun a v hv => by simp [Proofs.Ytmkalfofmodbdaa.tv] at hv; subst hv; rfl
instance OneL.sv {m : List En} {l : List (List UInt8)} : OneL m (l.map sv) := .of_map fun a v hv => by simp [Proofs.Ytmkalfofmodbdaa.sv] at hv; subst hv; rfl

theorem run_append {P : Program} {T E : TypeId} {z : Value} {sz by_ : Nat} [hT : SlI P T E z sz by_] (ty : TypeId) (w : World) (v u : Value) (ls ls2 : List (List Value)) (hown : Own w v E sz ls) (hrd : Rd w u sz ls2) (hone : ∀ x ∈ ls2, ∀ v ∈ x, v.oneCell' = true)
    (hb : ls.length + ls2.length ≤ 5000000000000) :
    ∃ v' w', (Builtin.append_ #[T, T] ty #[v, u]).run P w = .ok v' w' ∧ Own w' v' E sz (ls ++ ls2) ∧ Ext w w' (fun k => v.ownBlock = some k) ∧ (∀ b, v'.ownBlock = some b → v.ownBlock = some b ∨ w.heap.size ≤ b) := by
  obtain ⟨i, hi, hz, hsz, hby⟩ := hT.parts
  have hpos := hT.pos
  have hzs := hT.zs
  have hu := hT.u
  have hsm : by_ ≤ 24 := hT.small
  subst hsz hby
  obtain ⟨ua, ucap, huv, _, hua, hsp⟩ := hrd.shape
  have hsize : ∀ x ∈ ls ++ ls2, x.length = i.size := fun x hx => by
    rcases List.mem_append.1 hx with hx | hx
    · exact hown.size x hx
    · exact hrd.size x hx
  have hf2 : ls2.flatten.length = ls2.length * i.size := flatten_len ls2 hrd.size
  have hf1 : ls.flatten.length = ls.length * i.size := flatten_len ls hown.size
  have hone' : ∀ v ∈ ls2.flatten, v.oneCell' = true := fun v hv => by
    obtain ⟨x, hx, hvx⟩ := List.mem_flatten.1 hv
    exact hone x hx v hvx
  have hbytes : (ls.length + ls2.length) * i.bytes ≤ 140737488355328 := by
    have h1 := Nat.mul_le_mul hb hsm
    omega
  have hflat : (ls ++ ls2).flatten = ls.flatten ++ ls2.flatten := by simp
  have hlen : (ls ++ ls2).length = ls.length + ls2.length := by simp
  cases ua with
  | none =>
    have hls2 := hua rfl
    subst hls2
    subst huv
    refine ⟨v, w, ?_, by simpa using hown, Ext.refl _ _, fun b hb => .inl hb⟩
    rcases hown.owns.2 with ⟨rfl, hn⟩ | ⟨gb, cap, cur, rfl, _, hg, hnc, hcm, hcs, ht⟩
    · simp [Builtin.append_, run_underlying hu, sizeOf, typeInfo, hi, Builtin.lenOf, Builtin.firstCells]
    · simp [Builtin.append_, run_underlying hu, sizeOf, typeInfo, hi, Builtin.lenOf, Builtin.firstCells, hnc, storeCells]
  | some ua =>
    have hua2 : ls2 ≠ [] → ua = ⟨ua.block, ua.off, none⟩ := fun hne => by
      have := hsp ua rfl hne
      cases ua
      simp only at this
      rw [this]
    have hgo : gOf u = ua.block ∧ oOf u = ua.off := by rw [huv]; exact ⟨rfl, rfl⟩
    have hnews : ∀ j x, ls2.flatten[j]? = some x → w.cell? (ua.add j) = some x := by
      intro j x hj
      obtain ⟨i', y, f, h1, h2, h3⟩ := flatten_at ls2 j x hrd.size hj
      have h4 := hrd.cell i' y h1 f x h2
      rw [hgo.1, hgo.2, ← h3] at h4
      have : ua.add j = ⟨ua.block, ua.off + j, none⟩ := by
        rw [hua2 (fun hh => by rw [hh] at hj; simp at hj)]
        exact addr_add _ _ _
      rw [this]
      exact h4
    subst huv
    have fresh : ∀ (old : Nat), old < ls.length + ls2.length → ∀ (ow : Value),
        Own (w.drew.alloc (.cells (ls.flatten.toArray ++ ls2.flatten.toArray ++ Builtin.zeroCells z.cells (grownCap w (ls.length + ls2.length) old E - (ls.length + ls2.length))) E))
          (.slice (some ⟨w.heap.size, 0, none⟩) (ls.length + ls2.length) (grownCap w (ls.length + ls2.length) old E)) E i.size (ls ++ ls2) ∧
        Ext w (w.drew.alloc (.cells (ls.flatten.toArray ++ ls2.flatten.toArray ++ Builtin.zeroCells z.cells (grownCap w (ls.length + ls2.length) old E - (ls.length + ls2.length))) E)) (fun k => ow.ownBlock = some k) := by
      intro old ho ow
      have hge := grownCap_ge w (ls.length + ls2.length) old E
      have hcm : grownCap w (ls.length + ls2.length) old E ≤ maxLen := grownCap_le_maxLen w (ls.length + ls2.length) old E (by unfold maxLen; omega)
      refine ⟨⟨hsize, ?_, .inr ⟨w.heap.size, _, _, by rw [hlen], Nat.zero_le _, blk_alloc w.drew _, by rw [hlen]; exact hge, hcm, ?_, ?_⟩⟩, (Ext.drew w _).trans (Ext.alloc _ _ _)⟩
      · rw [hflat, List.length_append, hf1, hf2, hlen, Nat.add_mul]
      · simp only [Array.size_append, List.size_toArray, size_zeroCells, hzs, hf1, hf2, ← Nat.add_mul]
        congr 1
        omega
      · rw [hflat, hlen]
        simp only [Array.toList_append, List.append_assoc]
        rw [← List.append_assoc, show (ls.length + ls2.length) * i.size = (ls.flatten ++ ls2.flatten).length by rw [List.length_append, hf1, hf2, Nat.add_mul]]
        exact List.take_left
    rcases hown.owns.2 with ⟨rfl, hn⟩ | ⟨gb, cap, cur, rfl, _, hg, hnc, hcm, hcs, ht⟩
    · have hls : ls = [] := List.eq_nil_of_length_eq_zero hn
      subst hls
      by_cases hm : ls2.length = 0
      · have hls2 : ls2 = [] := List.eq_nil_of_length_eq_zero hm
        subst hls2
        refine ⟨.slice none 0 0, w, ?_, by simpa using hown, Ext.refl _ _, fun b hb => .inl hb⟩
        simp [Builtin.append_, run_underlying hu, sizeOf, typeInfo, hi, Builtin.lenOf, Builtin.firstCells, loadCells, loadCellsFrom]
      · have hr := run_append_nil (P := P) w T ty E i z hu hi hz ua ls2.length ucap ls2.flatten hf2 hnews (by omega) (by omega) (by have hb := hbytes; simp only [List.length_nil, Nat.zero_add] at hb; omega)
        have hgr := fresh 0 (by omega) (.slice none 0 0)
        simp only [List.length_nil, Nat.zero_add, List.flatten_nil, Array.empty_append, List.nil_append] at hgr ⊢
        exact ⟨_, _, hr, hgr.1, hgr.2, fun b hb => .inr (by simp [Value.ownBlock] at hb; omega)⟩
    · by_cases hroom : ls.length + ls2.length ≤ cap
      · have hfit : ls.length * i.size + ls2.flatten.length ≤ cur.size := by rw [hf2, hcs, ← Nat.add_mul]; exact Nat.mul_le_mul_right _ hroom
        have hr := run_append_room (P := P) w T ty E i hu hi gb ls.length cap cur hg ua ls2.length ucap ls2.flatten hf2 hnews hone' hroom hfit
        refine ⟨_, _, hr, ⟨hsize, ?_, .inr ⟨gb, cap, _, by rw [hlen], Nat.zero_le _, setRow_heap w gb cur _ E _ hg, by rw [hlen]; exact hroom, hcm, ?_, ?_⟩⟩, ⟨rfl, rfl, rfl, by simp, fun k _ hk => setRow_other w gb k _ (fun e => hk (by simp [Value.ownBlock, e]))⟩, fun b hb => .inl hb⟩
        · rw [hflat, List.length_append, hf1, hf2, hlen, Nat.add_mul]
        · simp only [List.size_toArray, List.length_append, List.length_take, List.length_drop, Array.length_toList]
          omega
        · rw [hflat, hlen, ht, show (ls.length + ls2.length) * i.size = (ls.flatten ++ ls2.flatten).length by rw [List.length_append, hf1, hf2, Nat.add_mul]]
          exact List.take_left
      · have holds : ∀ j x, ls.flatten[j]? = some x → w.cell? ((⟨gb, 0, none⟩ : Addr).add j) = some x := hown.owns.cells (g := gb) rfl
        have hr := run_append_grow (P := P) w T ty E i z hu hi hz ⟨gb, 0, none⟩ ls.length cap ls.flatten hf1 holds ua ls2.length ucap ls2.flatten hf2 hnews (by omega) (by omega) (growslice_fits (by omega) hbytes)
        have hgr := fresh cap (by omega) (.slice (some ⟨gb, 0, none⟩) ls.length cap)
        exact ⟨_, _, hr, hgr.1, hgr.2, fun b hb => .inr (by simp [Value.ownBlock] at hb; omega)⟩

section
variable {C : Cx} {e : Env} {m : List En} {dst : Option Tmp} {ty : TypeId} {pos : String} {aft : Array Edge} {g : Option (Nat × Bool)}

theorem EF.append {T E E' : TypeId} {z : Value} {sz sz' sz2 by_ : Nat} [hT : SlI C.P T E z sz by_] {x y : Operand} {v u : Value} {ls ls2 : List (List Value)} {r : List En} {n n2 : Nat} (hx : ev e x = some v) (hy : ev e y = some u) [hv : RowI m v E' sz' ls r] [hu : RdI m u sz2 ls2] [ho : OneL m ls2] [hn : LenI ls n] [hn2 : LenI ls2 n2]
    (hb : n + n2 ≤ 5000000000000) (hE : E' = E) (h1 : sz' = sz) (h2 : sz2 = sz) {ls3 : List (List Value)} [ha : AppI ls ls2 ls3] : EF C e m ⟨dst, .call ⟨.builtin .append, #[x, y], #[T, T]⟩, ty, pos, aft, g⟩ Value (fun _ => True) (fun v' => v') (fun v' => .row v' E sz ls3 :: r) := by
  have happ := ha.eq
  subst hE h1 h2 happ
  intro a w hF hS K Q hK
  have e1 := hn.eq
  have e2 := hn2.eq
  have hS' := hS.perm hv.perm
  obtain ⟨v', w', hr, hown, hext, hblk⟩ := run_append (P := C.P) (T := T) ty w v u ls ls2 (hS'.holds (.row v E' sz2 ls) (List.mem_cons_self ..)) (hu.rd hS) (ho.one hS) (by omega)
  unfold Oper.wp
  simp only [execOp, resolve, invoke, builtin, List.map_toArray, List.map_cons, List.map_nil, hF.ev hx, hF.ev hy, Sem.run_bind, Sem.run_pure, Result.andThen_ok, hr, Oper.upon]
  exact hK v' w' trivial (hS'.write (x := .row v E' sz2 ls) (y := .row v' E' sz2 (ls ++ ls2)) hext hown hblk rfl)

/-- An empty literal, `[]T{}`. -/
theorem EF.build0 {T E : TypeId} {z : Value} {sz by_ : Nat} [hT : SlI C.P T E z sz by_] : EF C e m ⟨dst, .buildSlice T 0 #[], ty, pos, aft, g⟩ Value (fun _ => True) (fun v => v) (fun v => .row v E sz [] :: m) := by
  intro a w hF hS K Q hK
  obtain ⟨i, hi, hz, hsz, hby⟩ := hT.parts
  have h0 : ∀ f : Nat → Value, Array.map f (Array.range 0) = #[] := fun f => by simp
  unfold Oper.wp
  simp only [execOp, Instr.buildSlice, run_underlying hT.u, sizeOf, typeInfo, hi, Sem.run_bind, run_program, Sem.run_pure, Result.andThen_ok, Nat.zero_mul, if_true, List.map_toArray, List.map_nil, Instr.fill, newRow, h0]
  exact hK _ _ trivial (hS.allocR E sz 0 0 [] #[] (by simp) rfl (by simp) (by simp) (by simp) (by simp))

def fillP (c : List Value) : List (Nat × Value) → List Value
  | [] => c
  | (i, v) :: r => fillP (c.set i v) r
/-- The fields filled in, written out. -/
class FillI (c : List Value) (ps : List (Nat × Value)) (c' : outParam (List Value)) : Prop where
  eq : fillP c ps = c'
instance FillI.nil {c : List Value} : FillI c [] c := ⟨rfl⟩
instance FillI.cons {c c1 c' : List Value} {i : Nat} {v : Value} {ps : List (Nat × Value)} [h : SetI c i v c1] [k : FillI c1 ps c'] : FillI c ((i, v) :: ps) c' := ⟨by rw [fillP, h.eq, k.eq]⟩
theorem fillP_len : ∀ (ps : List (Nat × Value)) (c : List Value), (fillP c ps).length = c.length
  | [], c => rfl
  | (i, v) :: r, c => by simp [fillP, fillP_len r]
theorem run_fill1 : ∀ (ps : List (Nat × Value)) (c : List Value), (∀ p ∈ ps, p.1 < c.length ∧ p.2.cells = #[p.2]) → ∀ (place : Nat → Option (Nat × Nat)), (∀ i, i < c.length → place i = some (i, 1)) → Instr.fill place c.toArray ps = some (fillP c ps).toArray
  | [], c, _, _, _ => by simp [Instr.fill, fillP]
  | (i, v) :: r, c, h, place, hp => by
    obtain ⟨h1, h2⟩ := h (i, v) (by simp)
    simp only at h1 h2
    have ih := run_fill1 r (c.set i v) (fun p hp => by simpa using h p (by simp [hp])) place (by simpa using hp)
    simp only [Instr.fill, hp i h1, h2]
    have hc : ¬ (i + 1 > c.length) := by omega
    simp [hc, fillP, ih]

/-- The operands of a literal's parts. -/
inductive Evs (e : Env) : List (Nat × Operand) → List (Nat × Value) → Prop
  | nil : Evs e [] []
  | cons {i : Nat} {x : Operand} {v : Value} {ps : List (Nat × Operand)} {vs : List (Nat × Value)} (h : ev e x = some v) (r : Evs e ps vs) : Evs e ((i, x) :: ps) ((i, v) :: vs)
theorem Evs.map {e : Env} {n : Nat} {a : Act} (hF : FR n a e) {ps : List (Nat × Operand)} {vs : List (Nat × Value)} (h : Evs e ps vs) : ps.map (fun (i, x) => (i, a.eval x)) = vs := by
  induction h with
  | nil => rfl
  | cons hx _ ih => simp only [List.map_cons, ih, hF.ev hx]
class OneP (m : List En) (n : Nat) (vs : List (Nat × Value)) : Prop where
  one : ∀ {w0 w : World} {mu : Nat → Prop}, St w0 mu m w → ∀ p ∈ vs, p.1 < n ∧ p.2.cells = #[p.2] ∧ p.2.oneCell' = true
instance OneP.nil {m : List En} {n : Nat} : OneP m n [] := ⟨fun _ _ h => by cases h⟩
class LtB (i n : Nat) : Prop where
  lt : i < n
instance LtB.zero {n : Nat} : LtB 0 (n + 1) := ⟨Nat.succ_pos _⟩
instance LtB.a01 : LtB 0 1 := ⟨by decide⟩
instance LtB.a02 : LtB 0 2 := ⟨by decide⟩
instance LtB.a12 : LtB 1 2 := ⟨by decide⟩
instance LtB.a03 : LtB 0 3 := ⟨by decide⟩
instance LtB.a13 : LtB 1 3 := ⟨by decide⟩
instance LtB.a23 : LtB 2 3 := ⟨by decide⟩
instance OneP.cons {m : List En} {n i : Nat} {v : Value} {vs : List (Nat × Value)} [hi : LtB i n] [h : OneV m v] [t : OneP m n vs] : OneP m n ((i, v) :: vs) := ⟨fun hs p hp => by
  rcases List.mem_cons.1 hp with rfl | hp
  · exact ⟨hi.lt, h.one hs⟩
  · exact t.one hs p hp⟩

/-- A struct literal. -/
theorem RDP.build {T : TypeId} {z : List Value} [h : FlatI C.P T z] {ps : List (Nat × Operand)} {vs : List (Nat × Value)} {n : Nat} {c : List Value} (hv : Evs e ps vs) (hl : z.length = n) [ho : OneP m n vs] [hc : FillI z vs c] : RDP C e m ⟨dst, .build T ps.toArray, ty, pos, aft, g⟩ (.agg c.toArray) := fun ac w hF hS w' => by
  have hc := hc.eq
  subst hl hc
  obtain ⟨fs, hu, hn, hf⟩ := flat_fields h.flat
  obtain ⟨i, hi, hz, _⟩ := h.size
  have hplaces : ∀ (l : List Field) (k : Nat) (acc : Array (Nat × Nat)), (∀ j f, l[j]? = some f → fieldFlat C.P (k + j) f = true) → (List.foldlM (m := Sem) (fun (b : Array (Nat × Nat)) (f : Field) => do pure (b.push (f.offset, ← sizeOf f.type))) acc l).run C.P w' = .ok (acc ++ ((List.range' k l.length).map fun i => (i, 1)).toArray) w' := by
    intro l
    induction l with
    | nil => intro k acc _; simp
    | cons f l ih =>
      intro k acc hl
      obtain ⟨h1, ⟨inf, hinf, hs⟩, _⟩ := flat_field (hl 0 f rfl)
      have ih' := ih (k + 1) (acc.push (k, 1)) (fun j f' hj => by have := hl (j + 1) f' (by simpa using hj); rwa [Nat.add_assoc, Nat.add_comm 1 j])
      simp only [Nat.add_zero] at h1
      simp only [List.foldlM_cons, Sem.run_bind, sizeOf, typeInfo, run_program, hinf, hs, h1, Sem.run_pure, Result.andThen_ok] at ih' ⊢
      rw [ih']
      simp [List.range'_succ]
  have hmap : (fs.mapM (m := Sem) fun f => do pure (f.offset, ← sizeOf f.type)).run C.P w' = .ok ((List.range' 0 fs.size).map fun i => (i, 1)).toArray w' := by
    rw [Array.mapM_eq_foldlM, ← Array.foldlM_toList]
    have := hplaces fs.toList 0 #[] (fun j f hj => by simpa using hf j f (by simpa using hj))
    simp only [Array.length_toList] at this
    simpa using this
  have hev : (ps.toArray.map fun (p : Nat × Operand) => (p.1, ac.eval p.2)).toList = vs := by
    simp
    exact hv.map hF
  have hfill := run_fill1 vs z (fun p hp => ⟨(ho.one hS p hp).1, (ho.one hS p hp).2.1⟩) (((List.range' 0 fs.size).map fun i => (i, 1)).toArray[·]?) (fun i hi => by
    have : i < fs.size := by omega
    simp [this])
  simp only [execOp, Instr.build, zeroValue, typeInfo, hi, hz, run_underlying hu, Value.cells, Sem.run_bind, run_program, Sem.run_pure, Result.andThen_ok]
  rw [hmap]
  simp only [Result.andThen_ok]
  rw [hev, hfill]
  rfl
theorem RD.build {T : TypeId} {z : List Value} [h : FlatI C.P T z] {ps : List (Nat × Operand)} {vs : List (Nat × Value)} {n : Nat} {c : List Value} (hv : Evs e ps vs) (hl : z.length = n) [ho : OneP m n vs] [hc : FillI z vs c] : RD C e m ⟨dst, .build T ps.toArray, ty, pos, aft, g⟩ (.agg c.toArray) := fun ac w hF hS => RDP.build (C := C) hv hl ac w hF hS w
end
end Go.Proofs.Ytmkalfofmodbdaa
