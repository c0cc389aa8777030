/- More rules: slices that are made, strings out of bytes, calls, cases, results; from a judgement to a contract. No statement of the seat is proved here. -/
import Derived.Test.YtknnbldkidlfoaaSf
namespace Go.Proofs.Ytknnbldkidlfoaa
open Go Go.RowKit

section
variable {C : Cx} {e : Env} {m : List En} {dst : Option Tmp} {ty : TypeId} {pos : String} {aft : Array Edge} {g : Option (Nat × Bool)}

theorem nomod (z : Array Value) (n : Nat) (hz : z.size = 1) : (Array.range n).map (fun i => z[i % z.size]!) = (List.replicate n z[0]!).toArray := by
  apply Array.ext'
  simp only [Array.toList_map, Array.toList_range]
  apply List.ext_getElem
  · simp
  · intro i h1 h2
    simp [hz, Nat.mod_one]

/-- `[]T{x}`, an element of one cell. -/
theorem EF.build1 {T E : TypeId} {z : Value} {by_ : Nat} [hT : SlI C.P T E z 1 by_] {x : Operand} {u : Value} (hx : ev e x = some u) [h1 : OneV m u] : EF C e m ⟨dst, .buildSlice T 1 #[(0, x)], ty, pos, aft, g⟩ Value (fun _ => True) (fun v => v) (fun v => .row v E 1 [[u]] :: m) := by
  intro a w hF hS K Q hK
  obtain ⟨i, hi, hz, hsz, hby⟩ := hT.parts
  have hzs := hT.zs
  have h2 := (h1.one hS).1
  have hn := nomod z.cells 1 hzs
  unfold Oper.wp
  simp only [execOp, Instr.buildSlice, run_underlying hT.u, sizeOf, zeroValue, typeInfo, hi, hsz, Sem.run_bind, run_program, Sem.run_pure, Result.andThen_ok, Nat.one_mul, List.map_toArray, List.map_cons, List.map_nil, hF.ev hx, newRow]
  simp only [show ¬ (1 > 2 ^ 24) by decide, if_false, show ¬ (1 = 0) by decide, Sem.run_bind, Sem.run_pure, run_program, Result.andThen_ok, hi, hz, hn, Instr.fill, Nat.mul_one, h2]
  simp only [List.size_toArray, List.length_cons, List.length_nil, List.length_replicate, Nat.zero_add, ne_eq, not_true_eq_false, decide_false, Bool.false_or, show ¬ (1 > 1) by decide, Oper.upon]
  exact hK _ _ trivial (hS.allocR E 1 1 1 [[u]] #[u] (by simp) rfl (by simp) (by simp [maxLen]) (by simp) (by simp))

/-- `[]T{x, y}`, elements of one cell. -/
theorem EF.build2 {T E : TypeId} {z : Value} {by_ : Nat} [hT : SlI C.P T E z 1 by_] {x y : Operand} {u v : Value} (hx : ev e x = some u) (hy : ev e y = some v) [h1 : OneV m u] [h1' : OneV m v] : EF C e m ⟨dst, .buildSlice T 2 #[(0, x), (1, y)], ty, pos, aft, g⟩ Value (fun _ => True) (fun v => v) (fun s => .row s E 1 [[u], [v]] :: m) := by
  intro a w hF hS K Q hK
  obtain ⟨i, hi, hz, hsz, hby⟩ := hT.parts
  have hzs := hT.zs
  have h2 := (h1.one hS).1
  have h3 := (h1'.one hS).1
  have hn := nomod z.cells 2 hzs
  unfold Oper.wp
  simp only [execOp, Instr.buildSlice, run_underlying hT.u, sizeOf, zeroValue, typeInfo, hi, hsz, Sem.run_bind, run_program, Sem.run_pure, Result.andThen_ok, Nat.mul_one, List.map_toArray, List.map_cons, List.map_nil, hF.ev hx, hF.ev hy, newRow]
  simp only [show ¬ (2 > 2 ^ 24) by decide, if_false, show ¬ (2 = 0) by decide, Sem.run_bind, Sem.run_pure, run_program, Result.andThen_ok, hi, hz, hn, Instr.fill, h2, h3]
  simp only [List.size_toArray, List.length_cons, List.length_nil, List.length_replicate, Nat.zero_add, ne_eq, not_true_eq_false, decide_false, Bool.false_or, decide_eq_true_eq, Nat.reduceAdd, Nat.reduceGT, Oper.upon]
  exact hK _ _ trivial (hS.allocR E 1 2 2 [[u], [v]] #[u, v] (by simp) rfl (by simp) (by simp [maxLen]) (by simp) (by simp))

/-- `[]T{x}`, an element of two cells. -/
theorem EF.build1P {T E : TypeId} {z : Value} {by_ : Nat} [hT : SlI C.P T E z 2 by_] {x : Operand} {u v : Value} (hx : ev e x = some (.agg #[u, v])) : EF C e m ⟨dst, .buildSlice T 1 #[(0, x)], ty, pos, aft, g⟩ Value (fun _ => True) (fun v => v) (fun s => .row s E 2 [[u, v]] :: m) := by
  intro a w hF hS K Q hK
  obtain ⟨i, hi, hz, hsz, hby⟩ := hT.parts
  have hzs := hT.zs
  obtain ⟨p, q, hpq⟩ : ∃ p q, z.cells = #[p, q] := by
    match h : z.cells, hzs with
    | ⟨[p, q]⟩, _ => exact ⟨p, q, rfl⟩
  have hn : (Array.range 2).map (fun i => z.cells[i % z.cells.size]!) = #[p, q] := by
    rw [hpq]
    apply Array.ext'
    simp only [Array.toList_map, Array.toList_range, List.range_succ, List.range_zero]
    rfl
  have hag : (Value.agg #[u, v]).cells = #[u, v] := rfl
  unfold Oper.wp
  simp only [execOp, Instr.buildSlice, run_underlying hT.u, sizeOf, zeroValue, typeInfo, hi, hsz, Sem.run_bind, run_program, Sem.run_pure, Result.andThen_ok, Nat.one_mul, List.map_toArray, List.map_cons, List.map_nil, hF.ev hx, newRow]
  simp only [show ¬ (2 > 2 ^ 24) by decide, if_false, show ¬ (2 = 0) by decide, Sem.run_bind, Sem.run_pure, run_program, Result.andThen_ok, hi, hz, hn, Instr.fill, Nat.zero_mul, hag]
  simp only [List.size_toArray, List.length_cons, List.length_nil, Nat.zero_add, ne_eq, not_true_eq_false, decide_false, Bool.false_or, Nat.reduceAdd, Nat.reduceGT, Oper.upon]
  exact hK _ _ trivial (hS.allocR E 2 1 1 [[u, v]] #[u, v] (by simp) rfl (by simp) (by simp [maxLen]) (by simp) (by simp))

theorem EF.build1B {T E : TypeId} {z : Value} {by_ : Nat} [hT : SlI C.P T E z 2 by_] {x : Operand} {p : Int × Int} (hx : ev e x = some (.agg (bv p).toArray)) : EF C e m ⟨dst, .buildSlice T 1 #[(0, x)], ty, pos, aft, g⟩ Value (fun _ => True) (fun v => v) (fun s => .row s E 2 [bv p] :: m) :=
  EF.build1P hx

theorem run_makeSlice {P : Program} {T E : TypeId} {z : Value} {sz by_ : Nat} [hT : SlI P T E z sz by_] (w : World) (l c : Nat) (hl : l ≤ c) (hb : c ≤ 5000000000000) :
    (Instr.makeSlice T (.int .i64 l) (.int .i64 c)).run P w = .ok (.slice (some ⟨w.heap.size, 0, none⟩) l c) (w.alloc (.cells ((Array.range (c * sz)).map (z.cells[· % z.cells.size]!)) E)) := by
  obtain ⟨inf, hi, hz, hsz, hby⟩ := hT.parts
  have hsm : by_ ≤ 24 := hT.small
  have w1 : IntKind.i64.wrap (l : Int) = l := IntWalk.i64_in _ ⟨by omega, by omega⟩
  have w2 : IntKind.i64.wrap (c : Int) = c := IntWalk.i64_in _ ⟨by omega, by omega⟩
  have h4 : inf.bytes * c ≤ 24 * c := Nat.mul_le_mul_right _ (by omega)
  have h5 : ¬ (281474976710656 < (inf.bytes : Int) * (c : Int)) := by
    have : ((inf.bytes : Int) * (c : Int)) = ((inf.bytes * c : Nat) : Int) := by simp
    rw [this]; omega
  have h6 : ¬ ((c : Int) < 0) := by omega
  have h7 : ¬ ((l : Int) < 0) := by omega
  have h8 : ¬ ((c : Int) < (l : Int)) := by omega
  by_cases h0 : c * sz = 0
  · simp [Instr.makeSlice, run_underlying hT.u, asInt, asIntOf, typeInfo, hi, w1, w2, h5, h6, h7, h8, sizeOf, hsz, newRow, zeroValue, h0]
    have h9 : ∀ f : Nat → Value, Array.map f (Array.range 0) = #[] := fun f => by simp
    rw [h9, h9]
  · simp [Instr.makeSlice, run_underlying hT.u, asInt, asIntOf, typeInfo, hi, hz, w1, w2, h5, h6, h7, h8, sizeOf, hsz, newRow, zeroValue, h0]

/-- `make([]T, n)`, elements of one cell. -/
theorem EF.makeN {T E : TypeId} {z : Value} {by_ : Nat} [hT : SlI C.P T E z 1 by_] {x y : Operand} {i i' : Int} {n n' : Nat} (hx : ev e x = some (.int .i64 i)) (hy : ev e y = some (.int .i64 i')) [hn : ToN i n] [hn' : ToN i' n'] (he : n = n') (hz1 : z.cells = #[z]) (hb : n ≤ 5000000000000) : EF C e m ⟨dst, .makeSlice T x y, ty, pos, aft, g⟩ Value (fun _ => True) (fun v => v) (fun s => .row s E 1 (List.replicate n [z]) :: m) := by
  subst he
  intro a w hF hS K Q hK
  have e1 := hn.eq
  have e2 := hn'.eq
  subst e1 e2
  have hr := run_makeSlice (P := C.P) (T := T) w n n (Nat.le_refl _) hb
  have hc := nomod z.cells (n * 1) hT.zs
  unfold Oper.wp
  simp only [execOp, hF.ev hx, hF.ev hy, Sem.run_bind, Sem.run_pure, hr, Result.andThen_ok, Oper.upon]
  refine hK _ _ trivial (hS.allocR E 1 n n (List.replicate n [z]) _ (fun x hx => by rw [List.eq_of_mem_replicate hx]; rfl) (by simp) (Nat.le_refl _) (by unfold maxLen; omega) (by simp) ?_)
  rw [hc, hz1]
  have : ∀ k : Nat, (List.replicate k [z]).flatten = List.replicate k z := by
    intro k
    induction k with
    | zero => rfl
    | succ k ih => simp [List.replicate_succ, ih]
  rw [this]
  simp

/-- `make([]T, 0, c)`. -/
theorem EF.make0 {T E : TypeId} {z : Value} {sz by_ : Nat} [hT : SlI C.P T E z sz by_] {x y : Operand} {i : Int} {c : Nat} (hx : ev e x = some (.int .i64 0)) (hy : ev e y = some (.int .i64 i)) [hn : ToN i c] (hb : c ≤ 5000000000000) : EF C e m ⟨dst, .makeSlice T x y, ty, pos, aft, g⟩ Value (fun _ => True) (fun v => v) (fun s => .row s E sz [] :: m) := by
  intro a w hF hS K Q hK
  have e1 := hn.eq
  subst e1
  have hr := run_makeSlice (P := C.P) (T := T) w 0 c (Nat.zero_le _) hb
  unfold Oper.wp
  simp only [execOp, hF.ev hx, hF.ev hy, Sem.run_bind, Sem.run_pure]
  rw [show (0 : Int) = ((0 : Nat) : Int) from rfl, hr]
  simp only [Result.andThen_ok, Oper.upon]
  exact hK _ _ trivial (hS.allocR E sz 0 c [] _ (by simp) rfl (Nat.zero_le _) (by unfold maxLen; omega) (by simp) (by simp))

/-- A string out of a slice of bytes. -/
theorem RD.toStr {S D E : TypeId} [h1 : UI C.P S (.slice E)] [h2 : UI C.P E (.int .u8)] [h3 : UI C.P D .string] {x : Operand} {v : Value} {l : List UInt8} (hx : ev e x = some v) [hr : RdI m v 1 (l.map yv)] : RD C e m ⟨dst, .convert S D x, ty, pos, aft, g⟩ (.string (bs l)) := fun a w hF hS => by
  have hrd := hr.rd hS
  obtain ⟨ad, cap, hv, _, had, hsp⟩ := hrd.shape
  have hloop : ∀ (F : Value → ByteArray → Sem (ForInStep ByteArray)), (∀ (b : UInt8) (t : ByteArray), F (.int .u8 (b.toNat : Int)) t = pure (ForInStep.yield (t.push b))) → ∀ (l : List UInt8) (acc : ByteArray), (forIn (m := Sem) (l.map fun b => Value.int .u8 (b.toNat : Int)).toArray acc F).run C.P w = .ok ⟨acc.data ++ l.toArray⟩ w := by
    intro F hF' l
    induction l with
    | nil => intro acc; simp
    | cons b l ih =>
      intro acc
      have := ih (acc.push b)
      simp only [List.forIn_toArray, List.map_cons, List.forIn_cons] at this ⊢
      simp only [hF', Sem.run_bind, Sem.run_pure, Result.andThen_ok]
      rw [this]
      congr 1
      apply ByteArray.ext
      simp [ByteArray.data_push]
  cases ad with
  | none =>
    have := had rfl
    have hl : l = [] := by simpa using this
    subst hl
    rw [hv] at hx
    simp [execOp, hF.ev hx, convert, run_underlying h1.u, run_underlying h2.u, run_underlying h3.u, Conv.bytesToString]
    rfl
  | some ad =>
    have had2 : l ≠ [] → ad = ⟨ad.block, ad.off, none⟩ := fun hne => by
      have := hsp ad rfl (by simpa using hne)
      cases ad
      simp only at this
      rw [this]
    have hl2 := run_loadCells_list (P := C.P) w ad (l.map fun b => Value.int .u8 (b.toNat : Int)) (fun j u hj => by
      rw [had2 (fun hh => by rw [hh] at hj; simp at hj), addr_add]
      have hj' : j < l.length := by
        have := (List.getElem?_eq_some_iff.1 hj).1
        simpa using this
      have h4 := hrd.cell j (yv l[j]) (by simp [hj']) 0 u (by
        simp only [List.getElem?_map, List.getElem?_eq_getElem hj', Option.map_some, Option.some.injEq] at hj
        subst hj; rfl)
      rw [hv] at h4
      simpa [gOf, oOf] using h4)
    rw [hv] at hx
    simp only [List.length_map] at hl2
    simp only [execOp, hF.ev hx, convert, Sem.run_bind, run_underlying h1.u, run_underlying h2.u, run_underlying h3.u, Result.andThen_ok, Conv.bytesToString, List.length_map, hl2]
    rw [hloop _ (fun b t => by simp) l .empty]
    simp [bs]
end
end Go.Proofs.Ytknnbldkidlfoaa
