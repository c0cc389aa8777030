/- Rules on bytes, bits and shifts, in plain numbers. No statement of the seat is proved here. -/
import Derived.Test.YtljllahlnbkimaaSh
namespace Go.Proofs.Ytljllahlnbkimaa
open Go Go.RowKit

section
variable {C : Cx} {e : Env} {m : List En} {dst : Option Tmp} {ty : TypeId} {pos : String} {aft : Array Edge} {g : Option (Nat × Bool)}
variable {T T' : TypeId} {x y : Operand} {a b : Int}

theorem wrap_in {k : IntKind} {n : Int} (h : k.min ≤ n ∧ n ≤ k.max) : k.wrap n = n := by
  cases k <;> simp [IntKind.min, IntKind.max, IntKind.signed, IntKind.bits, IntKind.wrap] at * <;> omega

theorem lt_of_max {k : IntKind} {n : Nat} (h : (n : Int) ≤ k.max) : n < 2 ^ k.bits := by
  cases k <;> simp [IntKind.max, IntKind.signed, IntKind.bits] at * <;> omega

/-- A number told as an int, in range. -/
theorem RD.convI {k k1 : IntKind} [h1 : UI C.P T (.int k1)] [h2 : UI C.P T' (.int .i64)] (hx : ev e x = some (.int k a)) (ha : -9223372036854775808 ≤ a) (hb : a ≤ 9223372036854775807) : RD C e m ⟨dst, .convert T T' x, ty, pos, aft, g⟩ (.int .i64 a) := by
  have := RD.conv (C := C) (dst := dst) (ty := ty) (pos := pos) (aft := aft) (g := g) (m := m) (T := T) (T' := T') hx
  rw [IntWalk.i64_in a ⟨ha, hb⟩] at this
  exact this
/-- The last byte of a number. -/
theorem u8_wrap (a : Int) : IntKind.u8.wrap a = ((UInt8.ofNat (a % 256).toNat).toNat : Int) := by
  simp [IntKind.wrap, IntKind.signed, IntKind.bits]
  omega
theorem RD.convB {k k1 : IntKind} [h1 : UI C.P T (.int k1)] [h2 : UI C.P T' (.int .u8)] (hx : ev e x = some (.int k a)) : RD C e m ⟨dst, .convert T T' x, ty, pos, aft, g⟩ (.int .u8 ((UInt8.ofNat (a % 256).toNat).toNat : Int)) := by
  have := RD.conv (C := C) (dst := dst) (ty := ty) (pos := pos) (aft := aft) (g := g) (m := m) (T := T) (T' := T') hx
  rw [u8_wrap] at this
  exact this
/-- A byte out of a string, at whatever int. -/
theorem RD.indexI {T : TypeId} [h : UI C.P T .string] {x y : Operand} {l : List UInt8} {k : IntKind} {i : Int} (hx : ev e x = some (.string (bs l))) (hy : ev e y = some (.int k i)) (h0 : 0 ≤ i) (hlt : i < l.length) : RD C e m ⟨dst, .index T x y, ty, pos, aft, g⟩ (.int .u8 ((l.getD i.toNat 0).toNat : Int)) := by
  have hj : ToN i i.toNat := ⟨by omega⟩
  exact RD.indexS (hj := hj) hx hy (by omega)

theorem and_mask (k : IntKind) (p : Nat) (hp : p ≤ k.bits) (a : Int) (h0 : 0 ≤ a) (h1 : a < 2 ^ k.bits) : ((BitVec.ofInt k.bits a &&& BitVec.ofInt k.bits (2 ^ p - 1)).toNat : Int) = a % 2 ^ p := by
  obtain ⟨n, rfl⟩ := Int.eq_ofNat_of_zero_le h0
  have hn : n < 2 ^ k.bits := by exact_mod_cast h1
  have e1 : ((2 : Int) ^ p - 1) = ((2 ^ p - 1 : Nat) : Int) := by
    have : 1 ≤ 2 ^ p := Nat.one_le_two_pow
    simp [Int.natCast_sub this]
  have hp2 : 2 ^ p - 1 < 2 ^ k.bits := by
    have : 2 ^ p ≤ 2 ^ k.bits := Nat.pow_le_pow_right (by decide) hp
    have : 1 ≤ 2 ^ p := Nat.one_le_two_pow
    omega
  rw [e1]
  simp only [BitVec.ofInt_natCast, BitVec.toNat_and, BitVec.toNat_ofNat, Nat.mod_eq_of_lt hn, Nat.mod_eq_of_lt hp2, Nat.and_two_pow_sub_one_eq_mod]
  simp
/-- 'x & (2^p - 1)'. -/
theorem RD.mask {k : IntKind} (p : Nat) (hx : ev e x = some (.int k a)) (hy : ev e y = some (.int k b)) (hb : b = 2 ^ p - 1) (hp : p ≤ k.bits) (h0 : 0 ≤ a) (h1 : a ≤ k.max) : RD C e m ⟨dst, .binOp .and T x y T', ty, pos, aft, g⟩ (.int k (a % 2 ^ p)) := by
  subst hb
  have := RD.band (dst := dst) (ty := ty) (pos := pos) (aft := aft) (g := g) (m := m) (C := C) (T := T) (T' := T') hx hy
  have hlt : a < 2 ^ k.bits := by
    cases k <;> simp [IntKind.max, IntKind.signed, IntKind.bits] at * <;> omega
  rw [and_mask k p hp a h0 hlt, wrap_in] at this
  · exact this
  · have h2 : 0 ≤ a % 2 ^ p := Int.emod_nonneg _ (by have : (0 : Int) < 2 ^ p := by exact Int.pow_pos (by decide)
                                                     omega)
    have h3 : a % 2 ^ p ≤ a := by
      obtain ⟨n, rfl⟩ := Int.eq_ofNat_of_zero_le h0
      have : ((n : Int) % 2 ^ p) = ((n % 2 ^ p : Nat) : Int) := by simp
      rw [this]
      exact_mod_cast Nat.mod_le _ _
    have h4 : k.min ≤ 0 := by cases k <;> simp [IntKind.min, IntKind.signed, IntKind.bits]
    exact ⟨by omega, by omega⟩
theorem or_apart (bits p c d : Nat) (hc : c < 2 ^ p) (h : d * 2 ^ p + c < 2 ^ bits) : ((BitVec.ofInt bits ((d * 2 ^ p : Nat) : Int) ||| BitVec.ofInt bits (c : Int)).toNat : Int) = ((d * 2 ^ p + c : Nat) : Int) := by
  have e1 : d * 2 ^ p < 2 ^ bits := by omega
  have e2 : c < 2 ^ bits := by omega
  simp only [BitVec.ofInt_natCast, BitVec.toNat_or, BitVec.toNat_ofNat, Nat.mod_eq_of_lt e1, Nat.mod_eq_of_lt e2]
  have := Nat.two_pow_add_eq_or_of_lt hc d
  rw [Nat.mul_comm] at this
  rw [this]
/-- 'x | y', the bits of y below those of x. -/
theorem RD.orHi {k : IntKind} (p c d : Nat) (hx : ev e x = some (.int k a)) (hy : ev e y = some (.int k b)) (ha : a = ((d * 2 ^ p : Nat) : Int)) (hb : b = (c : Int)) (hc : c < 2 ^ p) (hm : ((d * 2 ^ p + c : Nat) : Int) ≤ k.max) : RD C e m ⟨dst, .binOp .or T x y T', ty, pos, aft, g⟩ (.int k ((d * 2 ^ p + c : Nat) : Int)) := by
  subst ha hb
  have := RD.bor (dst := dst) (ty := ty) (pos := pos) (aft := aft) (g := g) (m := m) (C := C) (T := T) (T' := T') hx hy
  have hlt : d * 2 ^ p + c < 2 ^ k.bits := lt_of_max hm
  rw [or_apart k.bits p c d hc hlt, wrap_in] at this
  · exact this
  · have h4 : k.min ≤ 0 := by cases k <;> simp [IntKind.min, IntKind.signed, IntKind.bits]
    exact ⟨by omega, hm⟩
/-- 'x | y', the bits of x below those of y. -/
theorem RD.orLo {k : IntKind} (p c d : Nat) (hx : ev e x = some (.int k a)) (hy : ev e y = some (.int k b)) (ha : a = (c : Int)) (hb : b = ((d * 2 ^ p : Nat) : Int)) (hc : c < 2 ^ p) (hm : ((d * 2 ^ p + c : Nat) : Int) ≤ k.max) : RD C e m ⟨dst, .binOp .or T x y T', ty, pos, aft, g⟩ (.int k ((d * 2 ^ p + c : Nat) : Int)) := by
  subst ha hb
  have := RD.bor (dst := dst) (ty := ty) (pos := pos) (aft := aft) (g := g) (m := m) (C := C) (T := T) (T' := T') hx hy
  have hlt : d * 2 ^ p + c < 2 ^ k.bits := lt_of_max hm
  rw [BitVec.or_comm, or_apart k.bits p c d hc hlt, wrap_in] at this
  · exact this
  · have h4 : k.min ≤ 0 := by cases k <;> simp [IntKind.min, IntKind.signed, IntKind.bits]
    exact ⟨by omega, hm⟩
/-- 'x << y', in range. -/
theorem RD.shlI {k' : IntKind} (n : Nat) (hx : ev e x = some (.int .i64 a)) (hy : ev e y = some (.int k' b)) (hb : b = (n : Int)) (hn : n ≤ 64) (h0 : -9223372036854775808 ≤ a * 2 ^ n) (h1 : a * 2 ^ n ≤ 9223372036854775807) : RD C e m ⟨dst, .binOp .shl T x y T', ty, pos, aft, g⟩ (.int .i64 (a * 2 ^ n)) := by
  subst hb
  have := RD.shl (dst := dst) (ty := ty) (pos := pos) (aft := aft) (g := g) (m := m) (C := C) (T := T) (T' := T') hx hy (by omega)
  have hmin : Min.min (n : Int).toNat IntKind.i64.bits = n := by simp [IntKind.bits]; omega
  rw [hmin, IntWalk.i64_in _ ⟨h0, h1⟩] at this
  exact this
theorem RD.shlN {k' : IntKind} (n d : Nat) (hx : ev e x = some (.int .i64 a)) (hy : ev e y = some (.int k' b)) (ha : a = (d : Int)) (hb : b = (n : Int)) (hn : n ≤ 64) (h1 : d * 2 ^ n ≤ 9223372036854775807) : RD C e m ⟨dst, .binOp .shl T x y T', ty, pos, aft, g⟩ (.int .i64 ((d * 2 ^ n : Nat) : Int)) := by
  have e1 : ((d * 2 ^ n : Nat) : Int) = a * 2 ^ n := by rw [ha, Int.natCast_mul, Int.natCast_pow]; rfl
  rw [e1]
  exact RD.shlI n hx hy hb hn (by rw [← e1]; omega) (by rw [← e1]; omega)
/-- Subtraction of bytes that does not wrap. -/
theorem RD.subB (hx : ev e x = some (.int .u8 a)) (hy : ev e y = some (.int .u8 b)) (h1 : 0 ≤ a - b) (h2 : a - b ≤ 255) : RD C e m ⟨dst, .binOp .sub T x y T', ty, pos, aft, g⟩ (.int .u8 (a - b)) := by
  have := RD.subW (dst := dst) (ty := ty) (pos := pos) (aft := aft) (g := g) (m := m) (C := C) (T := T) (T' := T') hx hy
  rwa [wrap_in (k := .u8) ⟨by simp [IntKind.min, IntKind.signed]; omega, by simp [IntKind.max, IntKind.signed, IntKind.bits]; omega⟩] at this
/-- 'x >> y' of what is not negative. -/
theorem RD.shrI {k k' : IntKind} (n : Nat) (hx : ev e x = some (.int k a)) (hy : ev e y = some (.int k' b)) (hb : b = (n : Int)) (hn : n ≤ k.bits) : RD C e m ⟨dst, .binOp .shr T x y T', ty, pos, aft, g⟩ (.int k (a / 2 ^ n)) := by
  subst hb
  have := RD.shr (dst := dst) (ty := ty) (pos := pos) (aft := aft) (g := g) (m := m) (C := C) (T := T) (T' := T') hx hy (by omega)
  have hmin : Min.min (n : Int).toNat k.bits = n := by simp; omega
  have hd : a.fdiv (2 ^ n) = a / 2 ^ n := Int.fdiv_eq_ediv_of_nonneg _ (by exact Int.le_of_lt (Int.pow_pos (by decide)))
  rw [hmin, hd] at this
  exact this
/-- 'x / y', in range. -/
theorem RD.quoI (hx : ev e x = some (.int .i64 a)) (hy : ev e y = some (.int .i64 b)) (h3 : b ≠ 0) (h1 : -9223372036854775808 ≤ a.tdiv b) (h2 : a.tdiv b ≤ 9223372036854775807) : RD C e m ⟨dst, .binOp .quo T x y T', ty, pos, aft, g⟩ (.int .i64 (a.tdiv b)) := by
  have := RD.quoT (C := C) (m := m) (dst := dst) (ty := ty) (pos := pos) (aft := aft) (g := g) (T := T) (T' := T') hx hy h3
  rw [IntWalk.i64_in _ ⟨h1, h2⟩] at this
  exact this
end
end Go.Proofs.Ytljllahlnbkimaa
