/- A map of integers that the call has made: what it reads as; rules. No statement of the seat is proved here. -/
import Derived.Test.YtmkalfofmodbdaaSk
import Derived.Maps.Views
import Derived.Maps.Own
namespace Go.Proofs.Ytmkalfofmodbdaa
open Go Go.RowKit Go.ChangeMaps Go.MapKept Go.Maps
open Go.WideElems (Fit rd rg pl rd_val elemAt)

/-- A type of maps from integers to integers. -/
class MapT (P : Program) (t : TypeId) (k e : outParam TypeId) : Prop where
  u : P.underlying t = some (.map k e)
  uk : P.underlying k = some (.int .i64)
  ue : P.underlying e = some (.int .i64)
  z : (P.info? e).map (fun i => i.zero) = some (some (.int .i64 0))
def datOf (P : Program) (k e : TypeId) (es : Array MapEntry) : DataW Unit := .map ((es.toList.map (rg P k (plainElem P e))).foldr DataW.insert [])
/-- The entries read as the function f, at most n of them. -/
structure MapI (P : Program) (k e : TypeId) (es : Array MapEntry) (clock n : Nat) (f : Int → Option Int) : Prop where
  fit : Fit P k (plainElem (H := Unit) P e) es clock
  size : es.size ≤ n
  at_ : ∀ key : Int, (Lit.int .i64 key).wf = true → ∀ zd, (datOf P k e es).atKey (.int .i64 key) zd = match f key with | some v => .lit (.int .i64 v) | none => zd
theorem wf_i64 {a : Int} (h1 : -9223372036854775808 ≤ a) (h2 : a ≤ 9223372036854775807) : (Lit.int .i64 a).wf = true := by
  simp only [Lit.wf, IntKind.min, IntKind.max, IntKind.signed, IntKind.bits]
  simp
  omega
theorem MapI.empty (P : Program) (k e : TypeId) : MapI P k e #[] 0 0 (fun _ => none) :=
  ⟨⟨by simp, stamped_empty 0, by simp⟩, by simp, fun key _ zd => by simp [datOf]; rfl⟩
theorem MapI.mono {P : Program} {k e : TypeId} {es : Array MapEntry} {clock n n' : Nat} {f : Int → Option Int} (h : MapI P k e es clock n f) (hn : n ≤ n') : MapI P k e es clock n' f := ⟨h.fit, Nat.le_trans h.size hn, h.at_⟩

section
variable {P : Program} {t k e : TypeId} {es : Array MapEntry} {clock n : Nat} {f : Int → Option Int}
theorem MapI.look [T : MapT P t k e] (c : Bool) (h : MapI P k e es clock n f) {w : World} {b : Nat} (hb : w.heap[b]? = some (.map es clock)) {key : Int} (hk : (Lit.int .i64 key).wf = true) :
    (Instr.lookup t (.map (some b)) (.int .i64 key) c).run P w = .ok (if c then .tuple #[.int .i64 ((f key).getD 0), .bool (f key).isSome] else .int .i64 ((f key).getD 0)) w := by
  obtain ⟨i, hi, hz⟩ := Option.map_eq_some_iff.1 T.z
  have hz' : (zeroValue e).run P w = .ok (.int .i64 0) w := by simp [zeroValue, typeInfo, hi, hz]
  have hkey := keyOf_int_mk (P := P) T.uk hk
  have ha := h.at_ key hk
  rcases fit_look c (int_keyed T.uk) T.u hz' hb h.fit hkey with ⟨hrun, _, hat⟩ | ⟨e0, y, _, _, hrun, hRv, hat, _⟩
  · have : f key = none := by
      cases hf : f key with
      | none => rfl
      | some v =>
        have h1 := ha (.lit (.bool true))
        have h2 := hat (.lit (.bool true))
        unfold datOf at h1
        rw [h2, hf] at h1
        cases h1
    rw [hrun, this]; rfl
  · obtain ⟨a, hv, hy, _⟩ := plainElem_int_inv T.ue hRv
    have hf : f key = some a := by
      have h1 := ha (.lit (.bool true))
      have h2 := hat (.lit (.bool true))
      unfold datOf at h1
      rw [h2, hy] at h1
      cases hf : f key with
      | none => rw [hf] at h1; cases h1
      | some v =>
        rw [hf] at h1
        simp only [DataW.lit.injEq, Lit.int.injEq, true_and] at h1
        rw [h1]
    rw [hrun, hf, hv]; rfl
theorem MapI.put [T : MapT P t k e] (h : MapI P k e es clock n f) (hn : n < 1000000) {w : World} {b : Nat} (hb : w.heap[b]? = some (.map es clock)) {key val : Int} (hk : (Lit.int .i64 key).wf = true) (hv : (Lit.int .i64 val).wf = true) :
    ∃ es' clock', (Instr.mapUpdate t (.map (some b)) (.int .i64 key) (.int .i64 val)).run P w = .ok () (setBlock w b (.map es' clock')) ∧ MapI P k e es' clock' (n + 1) (fun z => if z = key then some val else f z) := by
  have hkey := keyOf_int_mk (P := P) T.uk hk
  have hm : es.size < maxLen := by have := h.size; unfold maxLen; omega
  obtain ⟨es', clock', hrun, F', hput, _⟩ := fit_store (R' := plainElem P e) (int_keyed T.uk) T.u hb h.fit hm (fun _ _ _ _ hz => hz) hkey (plainElem_int T.ue hv)
  have hD : datOf P k e es' = (datOf P k e es).put (.int .i64 key) (.lit (.int .i64 val)) := by
    unfold datOf
    rw [DataW.put_eq, hput]
  refine ⟨es', clock', hrun, F', ?_, fun z hz zd => ?_⟩
  · have e1 : es'.size = ((es'.toList.map (rg P k (plainElem (H := Unit) P e))).foldr DataW.insert []).length := by rw [length_sorted]; simp
    rw [e1, hput]
    unfold putKey
    rw [length_insert]
    have e2 := List.length_filter_le (notKey (.int .i64 key)) ((es.toList.map (rg P k (plainElem (H := Unit) P e))).foldr DataW.insert [])
    rw [length_sorted] at e2
    have := h.size
    simp at e2
    omega
  · rw [hD]
    by_cases hzk : z = key
    · subst hzk
      rw [atKey_put_same (D := datOf P k e es) ⟨_, rfl⟩ ((int_keyed T.uk).key hkey), if_pos rfl]
    · rw [atKey_put_other (by simpa using hzk), if_neg hzk]
      exact h.at_ z hz zd
end
class ObjI (m : List En) (b : Nat) (o : outParam Obj) (r : outParam (List En)) : Prop where
  perm : m.Perm (.obj b o :: r)
instance ObjI.here {b : Nat} {o : Obj} {m : List En} : ObjI (.obj b o :: m) b o m := ⟨List.Perm.refl _⟩
instance (priority := 900) ObjI.there {b : Nat} {o : Obj} {y : En} {m r : List En} [h : ObjI m b o r] : ObjI (y :: m) b o (y :: r) := ⟨(h.perm.cons y).trans (List.Perm.swap _ y r)⟩

theorem SubM.obj {m m' r : List En} {b : Nat} {o o' : Obj} [h : ObjI m b o r] (ho : o = o') (t : SubM m' r) : SubM (.obj b o' :: m') m := by
  subst ho
  exact .cons h.perm t

section
variable {C : Cx} {e : Env} {m : List En} {dst : Option Tmp} {ty : TypeId} {pos : String} {aft : Array Edge} {g : Option (Nat × Bool)} {t k el : TypeId} {es : Array MapEntry} {clock n : Nat} {f : Int → Option Int}
theorem EF.makeMap : EF C e m ⟨dst, .makeMap t none, ty, pos, aft, g⟩ Nat (fun _ => True) (fun b => .map (some b)) (fun b => .obj b (.map #[] 0) :: m) := by
  intro a w hF hS K Q hK
  unfold Oper.wp
  have hr : (Instr.makeMap t none).run C.P w = .ok (.map (some w.heap.size)) (w.alloc (.map #[] 0)) := rfl
  simp only [execOp, Option.map_none, Sem.run_bind, Sem.run_pure, hr, Result.andThen_ok, Oper.upon]
  exact hK w.heap.size _ trivial (hS.add (x := .obj w.heap.size (.map #[] 0)) (Ext.alloc w _ _) (blk_alloc w _) (fun b hb => by cases hb; exact Nat.le_refl _) rfl)
theorem EF.mapPutGen {op : Op} {x y z : Operand} (hop : ∀ ev : Operand → Value, (execOp ev ⟨dst, op, ty, pos, aft, g⟩) = (execOp ev ⟨dst, .mapUpdate t x y z, ty, pos, aft, g⟩)) [T : MapT C.P t k el] {b : Nat} {r : List En} {key val : Int} (hx : ev e x = some (.map (some b))) (hy : ev e y = some (.int .i64 key)) (hz : ev e z = some (.int .i64 val)) [ho : ObjI m b (.map es clock) r]
    (hm : MapI C.P k el es clock n f) (hn : n < 1000000) (k1 : -9223372036854775808 ≤ key) (k2 : key ≤ 9223372036854775807) (v1 : -9223372036854775808 ≤ val) (v2 : val ≤ 9223372036854775807) :
    EF C e m ⟨dst, op, ty, pos, aft, g⟩ (Array MapEntry × Nat) (fun q => MapI C.P k el q.1 q.2 (n + 1) (fun z => if z = key then some val else f z)) (fun _ => undef) (fun q => .obj b (.map q.1 q.2) :: r) := by
  intro a w hF hS K Q hK
  have hS' := hS.perm ho.perm
  have hb : w.heap[b]? = some (.map es clock) := hS'.holds _ (List.mem_cons_self ..)
  obtain ⟨es', clock', hrun, hM⟩ := hm.put (t := t) hn hb (wf_i64 k1 k2) (wf_i64 v1 v2)
  unfold Oper.wp
  rw [hop]
  simp only [execOp, hF.ev hx, hF.ev hy, hF.ev hz, Sem.run_bind, Sem.run_pure, hrun, Result.andThen_ok, Oper.upon]
  refine hK (es', clock') _ hM (hS'.write (x := .obj b (.map es clock)) (y := .obj b (.map es' clock')) ?_ (heap_setBlock_same hb _) (fun b' hb' => .inl hb') rfl)
  exact ⟨rfl, rfl, rfl, by simp [setBlock], fun i _ hi => heap_setBlock_other hb _ (fun e => hi (by rw [e]; rfl))⟩
theorem EF.mapPut {x y z : Operand} [T : MapT C.P t k el] {b : Nat} {r : List En} {key val : Int} (hx : ev e x = some (.map (some b))) (hy : ev e y = some (.int .i64 key)) (hz : ev e z = some (.int .i64 val)) [ho : ObjI m b (.map es clock) r]
    (hm : MapI C.P k el es clock n f) (hn : n < 1000000) (k1 : -9223372036854775808 ≤ key) (k2 : key ≤ 9223372036854775807) (v1 : -9223372036854775808 ≤ val) (v2 : val ≤ 9223372036854775807) :
    EF C e m ⟨dst, .mapUpdate t x y z, ty, pos, aft, g⟩ (Array MapEntry × Nat) (fun q => MapI C.P k el q.1 q.2 (n + 1) (fun z => if z = key then some val else f z)) (fun _ => undef) (fun q => .obj b (.map q.1 q.2) :: r) :=
  EF.mapPutGen (dst := dst) (ty := ty) (pos := pos) (aft := aft) (g := g) (fun _ => rfl) hx hy hz hm hn k1 k2 v1 v2
theorem EF.mapIns {x y z : Operand} [T : MapT C.P t k el] {b : Nat} {r : List En} {key val : Int} (hx : ev e x = some (.map (some b))) (hy : ev e y = some (.int .i64 key)) (hz : ev e z = some (.int .i64 val)) [ho : ObjI m b (.map es clock) r]
    (hm : MapI C.P k el es clock n f) (hn : n < 1000000) (k1 : -9223372036854775808 ≤ key) (k2 : key ≤ 9223372036854775807) (v1 : -9223372036854775808 ≤ val) (v2 : val ≤ 9223372036854775807) :
    EF C e m ⟨dst, .insert t x y z, ty, pos, aft, g⟩ (Array MapEntry × Nat) (fun q => MapI C.P k el q.1 q.2 (n + 1) (fun z => if z = key then some val else f z)) (fun _ => undef) (fun q => .obj b (.map q.1 q.2) :: r) :=
  EF.mapPutGen (dst := dst) (ty := ty) (pos := pos) (aft := aft) (g := g) (fun _ => rfl) hx hy hz hm hn k1 k2 v1 v2
theorem RD.mapGet {x y : Operand} [T : MapT C.P t k el] {b : Nat} {r : List En} {key : Int} (hx : ev e x = some (.map (some b))) (hy : ev e y = some (.int .i64 key)) [ho : ObjI m b (.map es clock) r] (hm : MapI C.P k el es clock n f) (k1 : -9223372036854775808 ≤ key) (k2 : key ≤ 9223372036854775807) :
    RD C e m ⟨dst, .lookup t x y false, ty, pos, aft, g⟩ (.int .i64 ((f key).getD 0)) := fun a w hF hS => by
  have hb : w.heap[b]? = some (.map es clock) := hS.holds _ (ho.perm.mem_iff.2 (List.mem_cons_self ..))
  have := hm.look (t := t) false hb (wf_i64 k1 k2)
  simp only [execOp, hF.ev hx, hF.ev hy, Sem.run_bind, this, Result.andThen_ok]
  rfl
theorem RD.mapHas {x y : Operand} [T : MapT C.P t k el] {b : Nat} {r : List En} {key : Int} (hx : ev e x = some (.map (some b))) (hy : ev e y = some (.int .i64 key)) [ho : ObjI m b (.map es clock) r] (hm : MapI C.P k el es clock n f) (k1 : -9223372036854775808 ≤ key) (k2 : key ≤ 9223372036854775807) :
    RD C e m ⟨dst, .lookup t x y true, ty, pos, aft, g⟩ (.tuple [.int .i64 ((f key).getD 0), .bool (f key).isSome].toArray) := fun a w hF hS => by
  have hb : w.heap[b]? = some (.map es clock) := hS.holds _ (ho.perm.mem_iff.2 (List.mem_cons_self ..))
  have := hm.look (t := t) true hb (wf_i64 k1 k2)
  simp only [execOp, hF.ev hx, hF.ev hy, Sem.run_bind, this, Result.andThen_ok]
  rfl
theorem WA.three {C : Cx} {ops : Array Oper} {late : List Nat} {ms : List En} {k : List It} {fuel : Nat} {listed : Array Bool} {e : Env} {m : List En} {a b c : Nat} (hr : Region.ready .any ops listed = [a, b, c]) (h1 : WAi C ops late ms k fuel listed e m a) (h2 : WAi C ops late ms k fuel listed e m b) (h3 : WAi C ops late ms k fuel listed e m c) : WA C ops late ms k (fuel + 1) listed e m :=
  WA.more hr (by simp) fun i hi => by
    rcases List.mem_cons.1 hi with rfl | hi
    · exact h1
    · rcases List.mem_cons.1 hi with rfl | hi
      · exact h2
      · rw [List.mem_singleton] at hi; subst hi; exact h3
/-- A store into a row of integers that is owned. -/
theorem EF.storeI {T T' : TypeId} [h : OneC C.P T] {x y : Operand} {u : Value} {v : Int} {i n sz : Nat} {ls : List (List Value)} {xs : List Int} {r : List En} (hx : ev e x = some (pe u 1 i 0)) [hm : RowI m u T' sz ls r] (hy : ev e y = some (.int .i64 v)) [hn : LenI ls n] (hlt : i < n) (hsz : sz = 1) (hls : ls = xs.map iv) :
    EF C e m ⟨dst, .store T x y, ty, pos, aft, g⟩ Unit (fun _ => True) (fun _ => undef) (fun _ => .row u T' 1 ((xs.set i v).map iv) :: r) := by
  have := EF.storeE (C := C) (e := e) (m := m) (dst := dst) (ty := ty) (pos := pos) (aft := aft) (g := g) (T := T) (x := x) (y := y) (ls := ls) (r := r) hx hy hlt hsz
  rw [hls, show ((xs.map iv).set i [Value.int .i64 v]) = (xs.set i v).map iv by rw [List.map_set]; rfl] at this
  exact this
/-- A store into a row of bools that is owned. -/
theorem EF.storeT {T T' : TypeId} [h : OneC C.P T] {x y : Operand} {u : Value} {v : Bool} {i n sz : Nat} {ls : List (List Value)} {xs : List Bool} {r : List En} (hx : ev e x = some (pe u 1 i 0)) [hm : RowI m u T' sz ls r] (hy : ev e y = some (.bool v)) [hn : LenI ls n] (hlt : i < n) (hsz : sz = 1) (hls : ls = xs.map tv) :
    EF C e m ⟨dst, .store T x y, ty, pos, aft, g⟩ Unit (fun _ => True) (fun _ => undef) (fun _ => .row u T' 1 ((xs.set i v).map tv) :: r) := by
  have := EF.storeE (C := C) (e := e) (m := m) (dst := dst) (ty := ty) (pos := pos) (aft := aft) (g := g) (T := T) (x := x) (y := y) (ls := ls) (r := r) hx hy hlt hsz
  rw [hls, show ((xs.map tv).set i [Value.bool v]) = (xs.set i v).map tv by rw [List.map_set]; rfl] at this
  exact this
end
end Go.Proofs.Ytmkalfofmodbdaa
