/- The last eight bits of any number. No statement of the seat is proved here. -/
import Derived.Test.YtpojkjabngkfgaaSb
import Derived.Test.YtpojkjabngkfgaaSn
namespace Go.Proofs.Ytpojkjabngkfgaa
open Go Go.RowKit

def lo8 (a : Int) : Nat := (BitVec.ofInt 64 a &&& BitVec.ofInt 64 255).toNat
theorem lo8_le (a : Int) : lo8 a ≤ 255 := by
  unfold lo8
  rw [BitVec.toNat_and]
  have : (BitVec.ofInt 64 255).toNat = 255 := by decide
  rw [this]
  exact Nat.and_le_right
theorem flat1 : ∀ us : List Value, us = (us.map fun u => [u]).flatten
  | [] => rfl
  | u :: us => by rw [List.map_cons, List.flatten_cons, ← flat1 us]; rfl
section
variable {C : Cx} {e : Env} {m : List En} {dst : Option Tmp} {ty : TypeId} {pos : String} {aft : Array Edge} {g : Option (Nat × Bool)} {T T' : TypeId} {x y : Operand} {a : Int}
theorem RD.band8 (hx : ev e x = some (.int .i64 a)) (hy : ev e y = some (.int .i64 255)) : RD C e m ⟨dst, .binOp .and T x y T', ty, pos, aft, g⟩ (.int .i64 (lo8 a : Int)) := by
  have := RD.band (dst := dst) (ty := ty) (pos := pos) (aft := aft) (g := g) (m := m) (C := C) (T := T) (T' := T') hx hy
  have hl := lo8_le a
  have e1 : IntKind.i64.wrap ((BitVec.ofInt IntKind.i64.bits a &&& BitVec.ofInt IntKind.i64.bits 255).toNat : Int) = (lo8 a : Int) := by
    show IntKind.i64.wrap (lo8 a : Int) = _
    exact IntWalk.i64_in _ ⟨by omega, by omega⟩
  rw [e1] at this
  exact this
theorem EF.band8 (hx : ev e x = some (.int .i64 a)) (hy : ev e y = some (.int .i64 255)) : EF C e m ⟨dst, .binOp .and T x y T', ty, pos, aft, g⟩ Nat (fun q => q ≤ 255) (fun q => .int .i64 (q : Int)) (fun _ => m) := by
  intro ac w hF hS K Q hK
  unfold Oper.wp
  rw [RD.band8 (T := T) (T' := T') hx hy ac w hF hS]
  exact hK (lo8 a) w (lo8_le a) hS
theorem fillP_full : ∀ (us pre c : List Value), c.length = us.length → fillP (pre ++ c) ((us.zipIdx pre.length).map fun p => (p.2, p.1)) = pre ++ us
  | [], pre, c, h => by
    have : c = [] := List.eq_nil_of_length_eq_zero h
    subst this; rfl
  | u :: us, pre, [], h => by simp at h
  | u :: us, pre, x :: c, h => by
    rw [List.zipIdx_cons, List.map_cons, fillP, List.set_append_right _ _ (Nat.le_refl _), Nat.sub_self, List.set_cons_zero]
    have := fillP_full us (pre ++ [u]) c (by simpa using h)
    rw [List.length_append, List.length_singleton, List.append_assoc, List.append_assoc] at this
    exact this
/-- A literal of elements of one cell each. -/
theorem EF.buildN {T E : TypeId} {z : Value} {by_ : Nat} [hT : SlI C.P T E z 1 by_] {n : Nat} {ps : List (Nat × Operand)} {vs : List (Nat × Value)} (us : List Value) (ls : List (List Value)) (hv : Evs e ps vs) (hvs : vs = us.zipIdx.map fun p => (p.2, p.1)) (hun : us.length = n) (hc : ∀ u ∈ us, u.cells = #[u]) (hu : us.map (fun u => [u]) = ls) (hn : 0 < n ∧ n ≤ 100) :
    EF C e m ⟨dst, .buildSlice T n ps.toArray, ty, pos, aft, g⟩ Value (fun _ => True) (fun v => v) (fun s => .row s E 1 ls :: m) := by
  subst hu
  intro a w hF hS K Q hK
  obtain ⟨i, hi, hz0, hsz, hby⟩ := hT.parts
  have hzs := hT.zs
  have hn' := nomod z.cells n hzs
  have hev : (ps.map fun (x : Nat × Operand) => (x.1, a.eval x.2)) = vs := hv.map hF
  have hlt : ∀ p ∈ vs, p.1 < n ∧ p.2.cells = #[p.2] := by
    intro p hp
    rw [hvs] at hp
    obtain ⟨q, hq, rfl⟩ := List.mem_map.1 hp
    obtain ⟨h1, h2, h3⟩ := List.mem_zipIdx hq
    refine ⟨by omega, hc _ ?_⟩
    rw [h3]; exact List.getElem_mem _
  have hfill := run_fill1 vs (List.replicate n z.cells[0]!) (fun p hp => ⟨by rw [List.length_replicate]; exact (hlt p hp).1, (hlt p hp).2⟩) (fun i => some (i * 1, 1)) (fun i _ => by simp)
  rw [hvs, show fillP (List.replicate n z.cells[0]!) (us.zipIdx.map fun p => (p.2, p.1)) = us from fillP_full us [] _ (by simp [hun]), ← hvs] at hfill
  unfold Oper.wp
  simp only [execOp, Instr.buildSlice, run_underlying hT.u, sizeOf, zeroValue, typeInfo, hi, hsz, Sem.run_bind, run_program, Sem.run_pure, Result.andThen_ok, Nat.mul_one, newRow, List.map_toArray, hev]
  simp only [show ¬ (n > 2 ^ 24) by omega, if_false, show ¬ (n = 0) by omega, Sem.run_bind, Sem.run_pure, run_program, Result.andThen_ok, hi, hz0, hn', Nat.mul_one] at hfill ⊢
  simp only [hfill, Sem.run_bind, Sem.run_pure, Oper.upon]
  exact hK _ _ trivial (hS.allocR E 1 n n (us.map fun u => [u]) us.toArray (by simp) (by simp [hun]) (Nat.le_refl _) (by unfold maxLen; omega) (by simp [hun]) (by rw [List.toList_toArray, Nat.mul_one, ← hun, List.take_length]; exact flat1 us))
end
/-! ### Entries let go -/
section
variable {C : Cx} {k : List It} {e : Env} {m r : List En} {c : Code}
theorem J.dropRow (v : Value) {T : TypeId} {sz : Nat} {ls : List (List Value)} [h : RowI m v T sz ls r] (hj : J C c k e r) : J C c k e m :=
  fun a w hF hS => hj a w hF ((hS.perm h.perm).sub (List.sublist_cons_self _ _))
theorem J.dropCells (b : Nat) {T : TypeId} {cs : List Value} [h : CellsI m b T cs r] (hj : J C c k e r) : J C c k e m :=
  fun a w hF hS => hj a w hF ((hS.perm h.perm).sub (List.sublist_cons_self _ _))
end
end Go.Proofs.Ytpojkjabngkfgaa
