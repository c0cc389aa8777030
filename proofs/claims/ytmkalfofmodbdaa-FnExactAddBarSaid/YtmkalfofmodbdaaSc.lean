/- Shifts and masks of natural numbers. No statement of the seat is proved here. -/
import Derived.Test.YtmkalfofmodbdaaSb
import Derived.Test.YtmkalfofmodbdaaSk
namespace Go.Proofs.Ytmkalfofmodbdaa
open Go Go.RowKit
section
variable {C : Cx} {e : Env} {m : List En} {dst : Option Tmp} {ty : TypeId} {pos : String} {aft : Array Edge} {g : Option (Nat × Bool)} {T T' : TypeId} {x y : Operand} {a b : Int}
theorem RD.shrN {k' : IntKind} (n d : Nat) (hx : ev e x = some (.int .i64 a)) (hy : ev e y = some (.int k' b)) (ha : a = (d : Int)) (hb : b = (n : Int)) (hn : n ≤ 64) : RD C e m ⟨dst, .binOp .shr T x y T', ty, pos, aft, g⟩ (.int .i64 ((d / 2 ^ n : Nat) : Int)) := by
  have := RD.shrI (C := C) (m := m) (dst := dst) (ty := ty) (pos := pos) (aft := aft) (g := g) (T := T) (T' := T') n hx hy hb hn
  have e1 : ((d / 2 ^ n : Nat) : Int) = a / 2 ^ n := by rw [ha]; simp
  rw [e1]; exact this
theorem RD.maskN (p d : Nat) (hx : ev e x = some (.int .i64 a)) (hy : ev e y = some (.int .i64 b)) (ha : a = (d : Int)) (hb : b = 2 ^ p - 1) (hp : p ≤ 64) (h1 : d ≤ 9223372036854775807) : RD C e m ⟨dst, .binOp .and T x y T', ty, pos, aft, g⟩ (.int .i64 ((d % 2 ^ p : Nat) : Int)) := by
  have := RD.mask (C := C) (m := m) (dst := dst) (ty := ty) (pos := pos) (aft := aft) (g := g) (T := T) (T' := T') p hx hy hb hp (by omega) (show a ≤ (9223372036854775807 : Int) by omega)
  have e1 : ((d % 2 ^ p : Nat) : Int) = a % 2 ^ p := by rw [ha]; simp
  rw [e1]; exact this
theorem RD.andN (c d : Nat) (hx : ev e x = some (.int .i64 a)) (hy : ev e y = some (.int .i64 b)) (ha : a = (c : Int)) (hb : b = (d : Int)) (h1 : c ≤ 9223372036854775807) (h2 : d ≤ 9223372036854775807) : RD C e m ⟨dst, .binOp .and T x y T', ty, pos, aft, g⟩ (.int .i64 ((c &&& d : Nat) : Int)) := by
  subst ha hb
  have := RD.band (dst := dst) (ty := ty) (pos := pos) (aft := aft) (g := g) (m := m) (C := C) (T := T) (T' := T') hx hy
  have e1 : (BitVec.ofInt IntKind.i64.bits (c : Int) &&& BitVec.ofInt IntKind.i64.bits (d : Int)).toNat = c &&& d := by
    have q1 : c < 2 ^ IntKind.i64.bits := by show c < 2 ^ 64; omega
    have q2 : d < 2 ^ IntKind.i64.bits := by show d < 2 ^ 64; omega
    simp only [BitVec.ofInt_natCast, BitVec.toNat_and, BitVec.toNat_ofNat, Nat.mod_eq_of_lt q1, Nat.mod_eq_of_lt q2]
  have h3 : c &&& d ≤ c := Nat.and_le_left
  rw [e1, IntWalk.i64_in _ ⟨by omega, by omega⟩] at this
  exact this
end
end Go.Proofs.Ytmkalfofmodbdaa
