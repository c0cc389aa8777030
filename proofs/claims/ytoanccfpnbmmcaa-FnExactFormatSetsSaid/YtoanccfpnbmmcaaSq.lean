/- Slices of slices: what they read as; memories with a row of entries. No statement of the seat is proved here. -/
import Derived.Test.YtoanccfpnbmmcaaSo
import Derived.Test.YtoanccfpnbmmcaaSd
namespace Go.Proofs.Ytoanccfpnbmmcaa
open Go Go.RowKit Go.ChangeShapes Go.WideShapes Go.Deep

def uv (u : Value) : List Value := [u]
/-- The slice value v reads as the lists xss, by the slice values us. -/
structure RdSS (w : World) (v : Value) (us : List Value) (xss : List (List Int)) : Prop where
  rd : Rd w v 1 (us.map uv)
  len : us.length = xss.length
  row : ∀ i, i < xss.length → Rd w (us.getD i default) 1 ((xss.getD i default).map iv)

theorem RdSS.keep {w0 w : World} {mu : Nat → Prop} {m : List En} {v : Value} {us : List Value} {xss : List (List Int)} (h : RdSS w0 v us xss) (hS : St w0 mu m w) (hmu : ∀ b, ¬ mu b) : RdSS w v us xss :=
  ⟨h.rd.keep hS.ext (fun _ b _ => hmu b), h.len, fun i hi => (h.row i hi).keep hS.ext (fun _ b _ => hmu b)⟩
section
variable {C : Cx} {k : List It} {e : Env} {m : List En}
theorem St.addOld {w0 w : World} {mu : Nat → Prop} {m : List En} (h : St w0 mu m w) {u : Value} {sz : Nat} {ls : List (List Value)} (hr : Rd w0 u sz ls) (hsz : 0 < sz) (hmu : ∀ b, ¬ mu b) : St w0 mu (.ro u sz ls :: m) w :=
  h.addRo (hr.keep h.ext (fun _ b _ => hmu b)) (fun hne b hb => ⟨hr.lt hne hsz b hb, hmu b⟩)
theorem WL.addOld {ops : Array Oper} {l : List Oper} {u : Value} {sz : Nat} {ls : List (List Value)} (hr : Rd C.w0 u sz ls) (hsz : 0 < sz) (hmu : ∀ b, ¬ C.mu b) (h : WL C ops k e (.ro u sz ls :: m) l) : WL C ops k e m l :=
  fun a w hF hS => h a w hF (hS.addOld hr hsz hmu)
theorem J.addOld {c : Code} {u : Value} {sz : Nat} {ls : List (List Value)} (hr : Rd C.w0 u sz ls) (hsz : 0 < sz) (hmu : ∀ b, ¬ C.mu b) (h : J C c k e (.ro u sz ls :: m)) : J C c k e m :=
  fun a w hF hS => h a w hF (hS.addOld hr hsz hmu)
end

/-! ### A row of entries within a memory -/
def rowsL (T : TypeId) (us : List Value) (xss : List (List Int)) : List En := (us.zip xss).map fun p => .row p.1 T 1 (p.2.map iv)
theorem rowsL_rdb {T : TypeId} {us : List Value} {xss : List (List Int)} {y : En} (h : y ∈ rowsL T us xss) : y.rdb = none := by
  unfold rowsL at h
  obtain ⟨p, _, rfl⟩ := List.mem_map.1 h
  rfl
theorem rowsL_snoc (T : TypeId) (us : List Value) (u : Value) (xss : List (List Int)) (x : List Int) (h : us.length = xss.length) : rowsL T (us ++ [u]) (xss ++ [x]) = rowsL T us xss ++ [.row u T 1 (x.map iv)] := by
  unfold rowsL
  rw [List.zip_append h]; simp
theorem rowsL_step (T : TypeId) (us : List Value) (u : Value) (xss : List (List Int)) (h : us.length < xss.length) : rowsL T (us ++ [u]) (xss.take (us ++ [u]).length) = rowsL T us (xss.take us.length) ++ [.row u T 1 ((xss.getD us.length default).map iv)] := by
  have e : xss.take (us ++ [u]).length = xss.take us.length ++ [xss.getD us.length default] := by
    rw [List.length_append, List.length_singleton, List.take_add_one, List.getElem?_eq_getElem h, List.getD_eq_getElem?_getD, List.getElem?_eq_getElem h]; rfl
  rw [e, rowsL_snoc]
  rw [List.length_take]; omega
theorem fill_app (vs : List Value) (d y : Value) (N : Nat) (h : vs.length < N) : ((vs ++ List.replicate (N - vs.length) d).map uv).set vs.length [y] = ((vs ++ [y]) ++ List.replicate (N - (vs ++ [y]).length) d).map uv := by
  obtain ⟨q, hq⟩ : ∃ q, N - vs.length = q + 1 := ⟨N - vs.length - 1, by omega⟩
  have hq2 : N - (vs ++ [y]).length = q := by rw [List.length_append, List.length_singleton]; omega
  rw [hq, hq2, List.replicate_succ, List.map_append, List.map_append, List.map_append, List.set_append_right _ _ (by simp), List.length_map, Nat.sub_self, List.map_cons, List.set_cons_zero, List.append_assoc]; rfl
instance (priority := 800) RowI.skip {l m : List En} {v : Value} {T : TypeId} {sz : Nat} {ls : List (List Value)} {r : List En} [h : RowI m v T sz ls r] : RowI (l ++ m) v T sz ls (l ++ r) := ⟨(h.perm.append_left l).trans List.perm_middle⟩
instance (priority := 800) CellsI.skip {l m : List En} {b : Nat} {T : TypeId} {c : List Value} {r : List En} [h : CellsI m b T c r] : CellsI (l ++ m) b T c (l ++ r) := ⟨(h.perm.append_left l).trans List.perm_middle⟩
instance (priority := 800) RoI.skip {l m : List En} {v : Value} {sz : Nat} {ls : List (List Value)} {r : List En} [h : RoI m v sz ls r] : RoI (l ++ m) v sz ls (l ++ r) := ⟨(h.perm.append_left l).trans List.perm_middle⟩
instance (priority := 800) RdI.skip {l m : List En} {v : Value} {sz : Nat} {ls : List (List Value)} [h : RdI m v sz ls] : RdI (l ++ m) v sz ls := ⟨fun hs => h.rd (hs.sub (List.sublist_append_right _ _))⟩
instance (priority := 800) LdI.skip {l m : List En} {v : Value} {sz : Nat} {ls : List (List Value)} [h : LdI m v sz ls] : LdI (l ++ m) v sz ls := ⟨h.mem.elim (fun h => .inl (List.mem_append_right _ h)) (fun ⟨T, h⟩ => .inr ⟨T, List.mem_append_right _ h⟩)⟩
/-- The list of entries l stands in m; r is what is left. -/
class RemL (m l : List En) (r : outParam (List En)) : Prop where
  perm : m.Perm (l ++ r)
instance RemL.here {l m : List En} : RemL (l ++ m) l m := ⟨List.Perm.refl _⟩
instance RemL.all {l : List En} : RemL l l [] := ⟨by rw [List.append_nil]⟩
instance (priority := 900) RemL.there {y : En} {m l r : List En} [h : RemL m l r] : RemL (y :: m) l (y :: r) := ⟨(h.perm.cons y).trans List.perm_middle.symm⟩
instance (priority := 850) RemL.app {x : En} {l' l m r : List En} [h : RemL (x :: (l' ++ m)) l r] : RemL ((x :: l') ++ m) l r := ⟨h.perm⟩
instance (priority := 850) RemL.napp {l m r : List En} [h : RemL m l r] : RemL ([] ++ m) l r := ⟨h.perm⟩
instance (priority := 800) RemL.skip {l' m l r : List En} [h : RemL m l r] : RemL (l' ++ m) l (l' ++ r) := ⟨(h.perm.append_left l').trans (by rw [← List.append_assoc, ← List.append_assoc]; exact List.perm_append_comm.append_right r)⟩
theorem SubM.of_perm {m' m r : List En} (h : m.Perm (m' ++ r)) : SubM m' m := by
  induction m' generalizing m with
  | nil => exact .nil
  | cons x m' ih => exact .cons h (ih (List.Perm.refl _))
theorem SubM.list {m l m' r : List En} [h : RemL m l r] (t : SubM m' r) : SubM (l ++ m') m := by
  obtain ⟨q, hq⟩ := t.perm
  exact .of_perm (h.perm.trans (by rw [List.append_assoc]; exact hq.append_left l))
theorem SubM.list0 {m l r : List En} [h : RemL m l r] : SubM l m := .of_perm h.perm
theorem rdss_own {w0 w : World} {mu : Nat → Prop} {m r : List En} {v : Value} {T TI : TypeId} {us : List Value} {xss : List (List Int)} (h : St w0 mu m w) [hv : RowI m v T 1 (us.map uv) r] {q : List En} [hl : RemL r (rowsL TI us xss) q] (hlen : us.length = xss.length) : RdSS w v us xss := by
  have h1 := h.perm hv.perm
  refine ⟨Own.rd (h1.holds _ (List.mem_cons_self ..)), hlen, fun i hi => ?_⟩
  have hm : En.row (us.getD i default) TI 1 ((xss.getD i default).map iv) ∈ rowsL TI us xss := by
    unfold rowsL
    refine List.mem_map.2 ⟨(us.getD i default, xss.getD i default), ?_, rfl⟩
    refine List.mem_iff_getElem.2 ⟨i, by rw [List.length_zip]; omega, ?_⟩
    simp [List.getD_eq_getElem?_getD, List.getElem?_eq_getElem hi, List.getElem?_eq_getElem (show i < us.length by omega)]
  exact Own.rd (h1.holds _ (List.mem_cons_of_mem _ (hl.perm.mem_iff.2 (List.mem_append_left _ hm))))

section
variable {H : Type} {enc : TypeId × Value → H} {P : Program} {w : World} {base : Nat} {held : Bool}
theorem open_rd_rows {T E F : TypeId} [hT : UI P T (.slice E)] [hE : UI P E (.slice F)] [hF : UI P F (.int .i64)] [h1 : OneC P E] [h2 : OneC P F] {fuel : Nat} {v : Value} {x : DataW H × List MemPlace}
    (h : DataW.trod enc P w base (fun _ => true) held fuel T [v] = some x) : ∃ us : List Value, Rd w v 1 (us.map uv) ∧ ∀ u ∈ us, ∃ xs : List Int, Rd w u 1 (xs.map iv) ∧ ∀ a ∈ xs, InI64 a :=
  open_rd cellsOf_one (by decide) uv (fun u => ∃ xs : List Int, Rd w u 1 (xs.map iv) ∧ ∀ a ∈ xs, InI64 a) (fun n cs y hl ht => by
    match cs, hl with
    | [u], _ => exact ⟨u, rfl, open_rd_ints ht⟩) h
end
theorem rows_of {w : World} {v : Value} {us : List Value} (hr : Rd w v 1 (us.map uv)) (h : ∀ u ∈ us, ∃ xs : List Int, Rd w u 1 (xs.map iv) ∧ ∀ a ∈ xs, InI64 a) : ∃ xss : List (List Int), RdSS w v us xss ∧ ∀ xs ∈ xss, ∀ a ∈ xs, InI64 a := by
  have key : ∀ us : List Value, (∀ u ∈ us, ∃ xs : List Int, Rd w u 1 (xs.map iv) ∧ ∀ a ∈ xs, InI64 a) → ∃ xss : List (List Int), us.length = xss.length ∧ (∀ i, i < xss.length → Rd w (us.getD i default) 1 ((xss.getD i default).map iv)) ∧ ∀ xs ∈ xss, ∀ a ∈ xs, InI64 a := by
    intro us
    induction us with
    | nil => exact fun _ => ⟨[], rfl, fun i hi => by simp at hi, by simp⟩
    | cons u us ih =>
      intro h
      obtain ⟨xs, a1, a2⟩ := h u (List.mem_cons_self ..)
      obtain ⟨xss, b1, b2, b3⟩ := ih (fun u hu => h u (List.mem_cons_of_mem _ hu))
      refine ⟨xs :: xss, by simp [b1], fun i hi => ?_, fun ys hy => ?_⟩
      · cases i with
        | zero => simpa using a1
        | succ i => have := b2 i (by simpa using hi); simpa using this
      · rcases List.mem_cons.1 hy with rfl | hy
        · exact a2
        · exact b3 ys hy
  obtain ⟨xss, a, b, c⟩ := key us h
  exact ⟨xss, ⟨hr, a, b⟩, c⟩

end Go.Proofs.Ytoanccfpnbmmcaa
