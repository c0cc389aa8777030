/- Parts of slices; an append over a part; structs compared; nil slices. No statement of the seat is proved here. -/
import Derived.Test.YtfjmbnlnkmabmaaSn
import Derived.Laws.Slices
import Derived.Laws.StructEq
namespace Go.Proofs.Ytfjmbnlnkmabmaa
open Go Go.RowKit

/-- v[l:u], its elements of s cells. -/
def slF (v : Value) (l u s : Nat) : Value := match v with
  | .slice a n cap => sliced a (Min.min l (Min.min u n)) (Min.min u n) cap s
  | v => v
theorem add_none (a : Addr) (h : a.spot = none) (k : Nat) : a.add k = ⟨a.block, a.off + k, none⟩ := by
  cases a
  simp only at h
  subst h
  exact addr_add _ _ _
theorem slF_parts {w : World} {v : Value} {sz : Nat} {ls : List (List Value)} (h : Rd w v sz ls) (l u : Nat) (hne : (ls.take u).drop l ≠ []) : gOf (slF v l u sz) = gOf v ∧ oOf (slF v l u sz) = oOf v + l * sz ∧ (slF v l u sz).ownBlock = v.ownBlock := by
  obtain ⟨a, cap, hv, _, ha, hsp⟩ := h.shape
  have hf := h.fits _ _ _ hv
  have hlen : 0 < ((ls.take u).drop l).length := List.length_pos_iff.2 hne
  rw [List.length_drop, List.length_take] at hlen
  subst hv
  cases a with
  | none => rw [ha rfl] at hlen; simp at hlen
  | some a =>
    have hs := hsp a rfl (fun hh => by rw [hh] at hlen; simp at hlen)
    have e1 : Min.min l (Min.min u ls.length) = l := by omega
    have e2 : ¬ cap = l := by omega
    simp only [slF, sliced, e1, if_neg e2, Option.map_some, add_none a hs, gOf, oOf, Value.ownBlock]
    exact ⟨trivial, trivial, trivial⟩
theorem rd_sl {w : World} {v : Value} {sz : Nat} {ls : List (List Value)} (h : Rd w v sz ls) (l u : Nat) : Rd w (slF v l u sz) sz ((ls.take u).drop l) := by
  obtain ⟨a, cap, hv, hmax, ha, hsp⟩ := h.shape
  have hf := h.fits _ _ _ hv
  have hlen : ((ls.take u).drop l).length = Min.min u ls.length - Min.min l (Min.min u ls.length) := by
    rw [List.length_drop, List.length_take]; omega
  refine ⟨⟨if cap = Min.min l (Min.min u ls.length) then a else a.map (·.add (Min.min l (Min.min u ls.length) * sz)), cap - Min.min l (Min.min u ls.length), by rw [hlen, hv]; rfl, by rw [hlen]; omega, ?_, ?_⟩, ?_, ?_, ?_⟩
  · intro hn
    have : a = none := by
      split at hn
      · exact hn
      · simpa using hn
    rw [ha this]; simp
  · intro g hg hne
    have hpos : 0 < ((ls.take u).drop l).length := List.length_pos_iff.2 hne
    rw [hlen] at hpos
    rw [if_neg (by omega)] at hg
    cases a with
    | none => cases hg
    | some a =>
      have hs := hsp a rfl (fun hh => by rw [hh] at hpos; simp at hpos)
      simp only [Option.map_some, add_none a hs, Option.some.injEq] at hg
      rw [← hg]
  · intro x hx
    exact h.size x (List.mem_of_mem_take (List.mem_of_mem_drop hx))
  · intro i x hi f y hy
    have hne : (ls.take u).drop l ≠ [] := fun hh => by rw [hh] at hi; simp at hi
    obtain ⟨h1, h2, _⟩ := slF_parts h l u hne
    have hx : ls[l + i]? = some x := by
      rw [List.getElem?_drop, List.getElem?_take] at hi
      split at hi
      · exact hi
      · cases hi
    have := h.cell (l + i) x hx f y hy
    rw [h1, h2]
    rw [← this]
    congr 2
    rw [Nat.add_mul]; omega
  · intro a' n' c hc
    rw [hv] at hc
    simp only [slF, sliced, Value.slice.injEq] at hc
    omega
instance RdI.sl {m : List En} {v : Value} {l u sz : Nat} {ls : List (List Value)} [h : RdI m v sz ls] : RdI m (slF v l u sz) sz ((ls.take u).drop l) := ⟨fun hs => rd_sl (h.rd hs) l u⟩
instance (priority := 1100) RdI.slMap {α : Type} {F : α → List Value} {m : List En} {v : Value} {l u sz : Nat} {xs : List α} [h : RdI m v sz (xs.map F)] : RdI m (slF v l u sz) sz (((xs.take u).drop l).map F) := ⟨fun hs => by
  have := rd_sl (h.rd hs) l u
  rwa [← List.map_take, ← List.map_drop] at this⟩

theorem Own.part {w : World} {v : Value} {T : TypeId} {sz : Nat} {ls : List (List Value)} (h : Own w v T sz ls) (i : Nat) (hi : i ≤ ls.length) : Own w (slF v 0 i sz) T sz (ls.take i) ∧ (slF v 0 i sz).ownBlock = v.ownBlock := by
  have hs : ∀ x ∈ ls.take i, x.length = sz := fun x hx => h.size x (List.mem_of_mem_take hx)
  have hfl := flatten_len _ hs
  have hl : (ls.take i).length = i := List.length_take_of_le hi
  rcases h.owns.2 with ⟨hv, hn⟩ | ⟨gb, cap, cur, hv, hb0, hg, hnc, hcm, hcs, ht⟩
  · have hls : ls = [] := List.eq_nil_of_length_eq_zero hn
    subst hls hv
    have hi0 : i = 0 := by simpa using hi
    subst hi0
    exact ⟨h, rfl⟩
  · have e : slF v 0 i sz = .slice (some ⟨gb, 0, none⟩) i cap := by
      rw [hv]
      simp only [slF, sliced, Nat.zero_min, Nat.zero_mul, Option.map_some, addr_add, Nat.add_zero, ite_self, Nat.sub_zero, Nat.min_eq_left hi]
    rw [e]
    refine ⟨⟨hs, hfl, .inr ⟨gb, cap, cur, by rw [hl], hb0, hg, by rw [hl]; omega, hcm, hcs, ?_⟩⟩, by rw [hv]; rfl⟩
    have h2 := flatten_len ls h.size
    rw [hl]
    have : ls.flatten = (ls.take i).flatten ++ (ls.drop i).flatten := by rw [← List.flatten_append, List.take_append_drop]
    have h3 : cur.toList.take (i * sz) = (cur.toList.take (ls.length * sz)).take (i * sz) := by
      rw [List.take_take, Nat.min_eq_left (Nat.mul_le_mul_right _ hi)]
    rw [h3, ht, this]
    exact List.take_left' (by rw [hfl, hl])

section
variable {C : Cx} {e : Env} {m : List En} {dst : Option Tmp} {ty : TypeId} {pos : String} {aft : Array Edge} {g : Option (Nat × Bool)} {k : List It}

theorem RDP.sliceR {T E : TypeId} {z : Value} {sz by_ : Nat} [h : SlI C.P T E z sz by_] {x : Operand} {lo hi : Option Operand} {v : Value} {ls : List (List Value)} {sz' : Nat} [hr : RdI m v sz' ls] {l u n : Nat} (hx : ev e x = some v) [hn : LenI ls n]
    (hlo : match lo with | none => l = 0 | some y => ∃ k i, ev e y = some (.int k i) ∧ i = (l : Int)) (hhi : match hi with | none => u = n | some y => ∃ k i, ev e y = some (.int k i) ∧ i = (u : Int)) (h1 : l ≤ u) (h2 : u ≤ n) (hsz : Nat.beq sz sz' = true) :
    RDP C e m ⟨dst, .slice T x lo hi none, ty, pos, aft, g⟩ (slF v l u sz') := fun ac w hF hS w' => by
  have e2 := hn.eq
  have e3 : sz = sz' := Nat.eq_of_beq_eq_true hsz
  subst e2 e3
  obtain ⟨a, cap, hv, _, ha, hsp⟩ := (hr.rd hS).shape
  have hf := (hr.rd hS).fits _ _ _ hv
  obtain ⟨inf, hinf, _, hs, _⟩ := h.parts
  have e4 : Min.min u ls.length = u := by omega
  have e5 : Min.min l u = l := by omega
  have e6 : u ≤ cap := by omega
  rw [hv] at hx ⊢
  cases lo with
  | none =>
    subst hlo
    cases hi with
    | none =>
      subst hhi
      simp [execOp, hF.ev hx, Instr.sliceAt, Instr.slice, Instr.sliceBounds, run_underlying h.u, sizeOf, typeInfo, hinf, slF, sliced]
    | some y =>
      obtain ⟨k, i, hy, rfl⟩ := hhi
      simp [execOp, hF.ev hx, hF.ev hy, Instr.sliceAt, Instr.slice, Instr.sliceBounds, Instr.sliceBound, asIntOf, run_underlying h.u, sizeOf, typeInfo, hinf, slF, sliced, e4, e6]
  | some q =>
    obtain ⟨k', i', hq, rfl⟩ := hlo
    cases hi with
    | none =>
      subst hhi
      simp [execOp, hF.ev hx, hF.ev hq, Instr.sliceAt, Instr.slice, Instr.sliceBounds, Instr.sliceBound, asIntOf, run_underlying h.u, sizeOf, typeInfo, hinf, hs, slF, sliced, h1, e5]
    | some y =>
      obtain ⟨k, i, hy, rfl⟩ := hhi
      simp [execOp, hF.ev hx, hF.ev hy, hF.ev hq, Instr.sliceAt, Instr.slice, Instr.sliceBounds, Instr.sliceBound, asIntOf, run_underlying h.u, sizeOf, typeInfo, hinf, hs, slF, sliced, h1, e4, e5, e6]
theorem RD.sliceR {T E : TypeId} {z : Value} {sz by_ : Nat} [h : SlI C.P T E z sz by_] {x : Operand} {lo hi : Option Operand} {v : Value} {ls : List (List Value)} {sz' : Nat} [hr : RdI m v sz' ls] {l u n : Nat} (hx : ev e x = some v) [hn : LenI ls n]
    (hlo : match lo with | none => l = 0 | some y => ∃ k i, ev e y = some (.int k i) ∧ i = (l : Int)) (hhi : match hi with | none => u = n | some y => ∃ k i, ev e y = some (.int k i) ∧ i = (u : Int)) (h1 : l ≤ u) (h2 : u ≤ n) (hsz : Nat.beq sz sz' = true) :
    RD C e m ⟨dst, .slice T x lo hi none, ty, pos, aft, g⟩ (slF v l u sz') := fun ac w hF hS => RDP.sliceR (C := C) hx hlo hhi h1 h2 hsz ac w hF hS w

/-- `append(v[:i], u...)`, v owned: v is given up. -/
theorem EF.appendSl {T E E' : TypeId} {z : Value} {sz sz' sz2 by_ : Nat} [hT : SlI C.P T E z sz by_] {x y : Operand} {v u : Value} {ls ls2 : List (List Value)} {r : List En} {i n n2 : Nat} (hx : ev e x = some (slF v 0 i sz')) (hy : ev e y = some u) [hv : RowI m v E' sz' ls r] [hu : RdI m u sz2 ls2] [ho : OneL m ls2] [hn : LenI ls n] [hn2 : LenI ls2 n2]
    (hi : i ≤ n) (hb : i + n2 ≤ 5000000000000) (hE : E' = E) (h1 : sz' = sz) (h2 : sz2 = sz) {ls0 ls3 : List (List Value)} [ht : TakeI ls i ls0] [ha : AppI ls0 ls2 ls3] : EF C e m ⟨dst, .call ⟨.builtin .append, #[x, y], #[T, T]⟩, ty, pos, aft, g⟩ Value (fun _ => True) (fun v' => v') (fun v' => .row v' E sz ls3 :: r) := by
  have htake := ht.eq
  have happ := ha.eq
  subst hE h1 h2 htake happ
  intro a w hF hS K Q hK
  have e1 := hn.eq
  have e2 := hn2.eq
  have hS' := hS.perm hv.perm
  obtain ⟨hown0, hblk0⟩ := (hS'.holds (.row v E' sz2 ls) (List.mem_cons_self ..) : Own w v E' sz2 ls).part i (by omega)
  obtain ⟨v', w', hr, hown, hext, hblk⟩ := run_append (P := C.P) (T := T) ty w _ u (ls.take i) ls2 hown0 (hu.rd hS) (ho.one hS) (by rw [List.length_take]; omega)
  unfold Oper.wp
  simp only [execOp, resolve, invoke, builtin, List.map_toArray, List.map_cons, List.map_nil, hF.ev hx, hF.ev hy, Sem.run_bind, Sem.run_pure, Result.andThen_ok, hr, Oper.upon]
  rw [hblk0] at hext hblk
  exact hK v' w' trivial (hS'.write (x := .row v E' sz2 ls) (y := .row v' E' sz2 (ls.take i ++ ls2)) hext hown hblk rfl)

/-! #### Structs of two numbers compared -/
def intB (P : Program) (T : TypeId) : Bool := match P.underlying T with
  | some (.int .i64) => true
  | _ => false
def barB (P : Program) (T : TypeId) : Bool := match P.underlying T with
  | some (.struct fs) => !P.stoodInHeld T && (!P.eqGuardType P.depth T && (match fs.toList with
    | [f, h] => f.name != "_" && (h.name != "_" && (f.offset == 0 && (h.offset == 1 && (intB P f.type && intB P h.type))))
    | _ => false))
  | _ => false
class BarI (P : Program) (T : TypeId) : Prop where
  ok : barB P T = true
theorem intB_spec {P : Program} {T : TypeId} (h : intB P T = true) : P.underlying T = some (.int .i64) := by
  unfold intB at h
  split at h
  · assumption
  · cases h
theorem run_equal_bar {P : Program} {T : TypeId} (h : barB P T = true) (x y : Int × Int) (w : World) : (Op.equalIn 10000 T (.agg (bv x).toArray) (.agg (bv y).toArray)).run P w = .ok (x.1 == y.1 && x.2 == y.2) w ∧ P.eqGuardType P.depth T = false := by
  unfold barB at h
  split at h
  · rename_i fs hu
    simp only [Bool.and_eq_true, Bool.not_eq_true'] at h
    obtain ⟨h1, h2, h3⟩ := h
    refine ⟨?_, h2⟩
    have hfs : P.fieldsOf T = fs := by simp [Program.fieldsOf, hu]
    split at h3
    · rename_i f k hl
      simp only [Bool.and_eq_true, bne_iff_ne, beq_iff_eq] at h3
      obtain ⟨n1, n2, o1, o2, t1, t2⟩ := h3
      have u1 := intB_spec t1
      have u2 := intB_spec t2
      have i1 : ∀ w, (isAgg f.type).run P w = .ok false w := fun w => by simp [isAgg, run_underlying u1]
      have i2 : ∀ w, (isAgg k.type).run P w = .ok false w := fun w => by simp [isAgg, run_underlying u2]
      rw [run_equalIn_agg w 9999 T _ _ (by rw [hfs]; exact hu) h1, hfs, hl]
      have q1 := fun w => run_equalIn_int (P := P) w 9998 f.type .i64 .i64 x.1 y.1 u1
      have q2 := fun w => run_equalIn_int (P := P) w 9998 k.type .i64 .i64 x.2 y.2 u2
      simp only [Op.eqFields, ne_eq, n1, n2, not_false_eq_true, if_true, o1, o2, part, Sem.run_bind, i1, Result.andThen_ok, Bool.false_eq_true, if_false, bv]
      by_cases e1 : x.1 = y.1
      · by_cases e2 : x.2 = y.2
        · simp [e1, e2] at q1 q2 ⊢
          simp [q1, q2, i2]
        · simp [e1] at q1 q2 ⊢
          simp [q1, q2, i2, e2]
      · simp at q1 q2 ⊢
        simp [q1, i2, e1]
    · cases h3
  · cases h
theorem RD.eqlA {T T' : TypeId} {x y : Operand} {a b : Int × Int} (hx : ev e x = some (.agg (bv a).toArray)) (hy : ev e y = some (.agg (bv b).toArray)) [h : BarI C.P T] : RD C e m ⟨dst, .binOp .eql T x y T', ty, pos, aft, g⟩ (.bool (decide (a = b))) := fun ac w hF _ => by
  obtain ⟨h1, h2⟩ := run_equal_bar h.ok a b w
  have hd : (a.1 == b.1 && a.2 == b.2) = decide (a = b) := by
    by_cases hab : a = b
    · simp [hab]
    · have : ¬ (a.1 = b.1 ∧ a.2 = b.2) := fun hh => hab (Prod.ext hh.1 hh.2)
      simp only [not_and] at this
      simp [hab]
      try first | exact this | exact Decidable.not_or_of_imp this
  simp only [execOp, hF.ev hx, hF.ev hy, Sem.run_bind, run_eqGuard_agg (P := C.P) w _ T x y _ _ h2, Result.andThen_ok, run_eql_struct, h1, hd]
  rfl
theorem RD.neqA {T T' : TypeId} {x y : Operand} {a b : Int × Int} (hx : ev e x = some (.agg (bv a).toArray)) (hy : ev e y = some (.agg (bv b).toArray)) [h : BarI C.P T] : RD C e m ⟨dst, .binOp .neq T x y T', ty, pos, aft, g⟩ (.bool (decide (a ≠ b))) := fun ac w hF _ => by
  obtain ⟨h1, h2⟩ := run_equal_bar h.ok a b w
  have hd : (!(a.1 == b.1 && a.2 == b.2)) = decide (a ≠ b) := by
    by_cases hab : a = b
    · simp [hab]
    · have : ¬ (a.1 = b.1 ∧ a.2 = b.2) := fun hh => hab (Prod.ext hh.1 hh.2)
      simp only [not_and] at this
      simp [hab]
      try first | exact this | exact Decidable.not_or_of_imp this
  simp only [execOp, hF.ev hx, hF.ev hy, Sem.run_bind, run_eqGuard_agg (P := C.P) w _ T x y _ _ h2, Result.andThen_ok, run_neq_struct, h1, hd]
  rfl

/-! #### A nil slice is a row of none -/
theorem St.nilRow {w0 w : World} {mu : Nat → Prop} (h : St w0 mu m w) (T : TypeId) (sz : Nat) : St w0 mu (.row (.slice none 0 0) T sz [] :: m) w :=
  h.add (Ext.refl _ _) ⟨by simp, by simp [World.ownsRow]⟩ (fun b hb => by cases hb) rfl
theorem WL.nilRow {ops : Array Oper} {l : List Oper} (T : TypeId) (sz : Nat) (h : WL C ops k e (.row (.slice none 0 0) T sz [] :: m) l) : WL C ops k e m l := fun a w hF hS => h a w hF (hS.nilRow T sz)
theorem J.nilRow {c : Code} (T : TypeId) (sz : Nat) (h : J C c k e (.row (.slice none 0 0) T sz [] :: m)) : J C c k e m := fun a w hF hS => h a w hF (hS.nilRow T sz)
theorem JE.nilRow {x : Exit} (T : TypeId) (sz : Nat) (h : JE C x k e (.row (.slice none 0 0) T sz [] :: m)) : JE C x k e m := fun a w hF hS => h a w hF (hS.nilRow T sz)
end
end Go.Proofs.Ytfjmbnlnkmabmaa
