/- Rules for the operations that only read. No statement of the seat is proved here. -/
import Derived.Test.YtljllahlnbkimaaSa
namespace Go.Proofs.Ytljllahlnbkimaa
open Go Go.RowKit

/-! ### Facts on types, found by their number -/
class UI (P : Program) (T : TypeId) (d : outParam TypeDesc) : Prop where
  u : P.underlying T = some d
/-- A type of one cell. -/
class OneC (P : Program) (T : TypeId) : Prop where
  u : ∃ d, P.underlying T = some d ∧ (match d with | .struct _ | .array _ _ => false | _ => true) = true
  i : ∃ i, P.info? T = some i ∧ i.size = 1
def fieldFlat (P : Program) (i : Nat) (f : Field) : Bool :=
  f.offset == i && ((match P.info? f.type with | some inf => inf.size == 1 | none => false) && (match P.underlying f.type with | some (.struct _) | some (.array _ _) | none => false | _ => true))
def flatB (P : Program) (T : TypeId) (n : Nat) : Bool :=
  match P.underlying T with
  | some (.struct fs) => fs.size == n && fs.toList.zipIdx.all fun (f, i) => fieldFlat P i f
  | _ => false
/-- A struct whose fields are of one cell each. -/
class FlatI (P : Program) (T : TypeId) (z : outParam (List Value)) : Prop where
  flat : flatB P T z.length = true
  info : (P.info? T).map (fun i => (i.zero, i.size)) = some (some (.agg z.toArray), z.length)
class ZeroI (P : Program) (T : TypeId) (z : outParam Value) : Prop where
  info : (P.info? T).map (fun i => i.zero) = some (some z)
/-- A slice type, its element's type, cells and bytes. -/
class SlI (P : Program) (T : TypeId) (E : outParam TypeId) (z : outParam Value) (sz : outParam Nat) (bytes : outParam Nat) : Prop where
  u : P.underlying T = some (.slice E)
  info : (P.info? E).map (fun i => (i.zero, i.size, i.bytes)) = some (some z, sz, bytes)
  zs : z.cells.size = sz
  pos : 0 < sz
  small : bytes ≤ 24

/-- A number that is a natural one. -/
class ToN (i : Int) (j : outParam Nat) : Prop where
  eq : i = (j : Int)
instance ToN.cast {n : Nat} : ToN (n : Int) n := ⟨rfl⟩
instance ToN.lit {n : Nat} : ToN (no_index (OfNat.ofNat n) : Int) (OfNat.ofNat n) := ⟨rfl⟩
instance ToN.ofNat {n : Nat} : ToN (Int.ofNat n) n := ⟨rfl⟩
instance ToN.zero : ToN 0 0 := ⟨rfl⟩
instance ToN.one : ToN 1 1 := ⟨rfl⟩
instance ToN.add {a b : Int} {x y : Nat} [h : ToN a x] [k : ToN b y] : ToN (a + b) (x + y) := ⟨by rw [h.eq, k.eq]; rfl⟩
instance ToN.mul {a b : Int} {x y : Nat} [h : ToN a x] [k : ToN b y] : ToN (a * b) (x * y) := ⟨by rw [h.eq, k.eq]; rfl⟩

class LenI {α : Type} (l : List α) (n : outParam Nat) : Prop where
  eq : l.length = n
instance LenI.nil {α : Type} : LenI ([] : List α) 0 := ⟨rfl⟩
instance LenI.cons {α : Type} {x : α} {l : List α} {n : Nat} [h : LenI l n] : LenI (x :: l) (n + 1) := ⟨by simp [h.eq]⟩
instance LenI.app {α : Type} {l r : List α} {n m : Nat} [h : LenI l n] [k : LenI r m] : LenI (l ++ r) (n + m) := ⟨by simp [h.eq, k.eq]⟩
instance LenI.map {α β : Type} {f : α → β} {l : List α} {n : Nat} [h : LenI l n] : LenI (l.map f) n := ⟨by simp [h.eq]⟩
instance LenI.set {α : Type} {l : List α} {i : Nat} {x : α} {n : Nat} [h : LenI l n] : LenI (l.set i x) n := ⟨by simp [h.eq]⟩
instance LenI.repl {α : Type} {x : α} {n : Nat} : LenI (List.replicate n x) n := ⟨by simp⟩
instance (priority := 10) LenI.any {α : Type} {l : List α} : LenI l l.length := ⟨rfl⟩

/-- Element i of a list of rows of cells. -/
class ElI (ls : List (List Value)) (i : Nat) (x : outParam (List Value)) : Prop where
  eq : i < ls.length → ls[i]? = some x
instance ElI.map {α : Type} [Inhabited α] {f : α → List Value} {l : List α} {i : Nat} : ElI (l.map f) i (f (l.getD i default)) := ⟨fun h => by
  have h' : i < l.length := by simpa using h
  simp [h']⟩
instance (priority := 10) ElI.any {ls : List (List Value)} {i : Nat} : ElI ls i (ls.getD i []) := ⟨fun h => by simp [h]⟩

/-- A value of one cell. -/
class OneV (m : List En) (v : Value) : Prop where
  one : ∀ {w0 w : World} {mu : Nat → Prop}, St w0 mu m w → v.cells = #[v] ∧ v.oneCell' = true
instance OneV.int {m : List En} {k : IntKind} {n : Int} : OneV m (.int k n) := ⟨fun _ => ⟨rfl, rfl⟩⟩
instance OneV.bool {m : List En} {b : Bool} : OneV m (.bool b) := ⟨fun _ => ⟨rfl, rfl⟩⟩
instance OneV.string {m : List En} {s : ByteArray} : OneV m (.string s) := ⟨fun _ => ⟨rfl, rfl⟩⟩
instance OneV.pointer {m : List En} {a : Option Addr} : OneV m (.pointer a) := ⟨fun _ => ⟨rfl, rfl⟩⟩
instance OneV.slice {m : List En} {a : Option Addr} {l c : Nat} : OneV m (.slice a l c) := ⟨fun _ => ⟨rfl, rfl⟩⟩
instance (priority := 900) OneV.rd {m : List En} {v : Value} {sz : Nat} {ls : List (List Value)} [h : RdI m v sz ls] : OneV m v := ⟨fun hs => by
  obtain ⟨a, cap, hv, _⟩ := (h.rd hs).shape
  rw [hv]; exact ⟨rfl, rfl⟩⟩

/-- The address of field f of element i of the slice v. -/
def pe (v : Value) (sz i f : Nat) : Value := .pointer (some ⟨gOf v, oOf v + (i * sz + f), none⟩)

def iv (x : Int) : List Value := [.int .i64 x]
def yv (x : UInt8) : List Value := [.int .u8 (x.toNat : Int)]
def bv (x : Int × Int) : List Value := [.int .i64 x.1, .int .i64 x.2]
def tv (x : Bool) : List Value := [.bool x]
def sv (x : List UInt8) : List Value := [.string ⟨x.toArray⟩]
/-- A string, as the list of its bytes. -/
def bs (l : List UInt8) : ByteArray := ⟨l.toArray⟩

section
variable {C : Cx} {e : Env} {m : List En} {dst : Option Tmp} {ty : TypeId} {pos : String} {aft : Array Edge} {g : Option (Nat × Bool)}

theorem RD.move {x : Operand} {v : Value} (hx : ev e x = some v) : RD C e m ⟨dst, .move x, ty, pos, aft, g⟩ v := fun a w hF _ => by simp [execOp, hF.ev hx]
theorem RD.assign {x : Operand} {v : Value} (hx : ev e x = some v) : RD C e m ⟨dst, .assign x, ty, pos, aft, g⟩ v := fun a w hF _ => by simp [execOp, hF.ev hx]
theorem RD.pickT {c x y : Operand} {v : Value} (hc : ev e c = some (.bool true)) (hx : ev e x = some v) : RD C e m ⟨dst, .pick c x y, ty, pos, aft, g⟩ v := fun a w hF _ => by simp [execOp, hF.ev hc, hF.ev hx, asBool]
theorem RD.pickF {c x y : Operand} {v : Value} (hc : ev e c = some (.bool false)) (hx : ev e y = some v) : RD C e m ⟨dst, .pick c x y, ty, pos, aft, g⟩ v := fun a w hF _ => by simp [execOp, hF.ev hc, hF.ev hx, asBool]

/-! #### Integers -/
section
variable {T T' : TypeId} {x y : Operand} {a b : Int}
theorem RD.add (hx : ev e x = some (.int .i64 a)) (hy : ev e y = some (.int .i64 b)) (h1 : -9223372036854775808 ≤ a + b) (h2 : a + b ≤ 9223372036854775807) : RD C e m ⟨dst, .binOp .add T x y T', ty, pos, aft, g⟩ (.int .i64 (a + b)) := fun ac w hF _ => by
  simp [execOp, hF.ev hx, hF.ev hy, binOp, eqGuard, Op.intArith, IntWalk.i64_in _ ⟨h1, h2⟩]
theorem RD.sub (hx : ev e x = some (.int .i64 a)) (hy : ev e y = some (.int .i64 b)) (h1 : -9223372036854775808 ≤ a - b) (h2 : a - b ≤ 9223372036854775807) : RD C e m ⟨dst, .binOp .sub T x y T', ty, pos, aft, g⟩ (.int .i64 (a - b)) := fun ac w hF _ => by
  simp [execOp, hF.ev hx, hF.ev hy, binOp, eqGuard, Op.intArith, IntWalk.i64_in _ ⟨h1, h2⟩]
theorem RD.mul (hx : ev e x = some (.int .i64 a)) (hy : ev e y = some (.int .i64 b)) (h1 : -9223372036854775808 ≤ a * b) (h2 : a * b ≤ 9223372036854775807) : RD C e m ⟨dst, .binOp .mul T x y T', ty, pos, aft, g⟩ (.int .i64 (a * b)) := fun ac w hF _ => by
  simp [execOp, hF.ev hx, hF.ev hy, binOp, eqGuard, Op.intArith, IntWalk.i64_in _ ⟨h1, h2⟩]
theorem RD.addW {k : IntKind} (hx : ev e x = some (.int k a)) (hy : ev e y = some (.int k b)) : RD C e m ⟨dst, .binOp .add T x y T', ty, pos, aft, g⟩ (.int k (k.wrap (a + b))) := fun ac w hF _ => by
  simp [execOp, hF.ev hx, hF.ev hy, binOp, eqGuard, Op.intArith]
theorem RD.subW {k : IntKind} (hx : ev e x = some (.int k a)) (hy : ev e y = some (.int k b)) : RD C e m ⟨dst, .binOp .sub T x y T', ty, pos, aft, g⟩ (.int k (k.wrap (a - b))) := fun ac w hF _ => by
  simp [execOp, hF.ev hx, hF.ev hy, binOp, eqGuard, Op.intArith]
theorem RD.mulW {k : IntKind} (hx : ev e x = some (.int k a)) (hy : ev e y = some (.int k b)) : RD C e m ⟨dst, .binOp .mul T x y T', ty, pos, aft, g⟩ (.int k (k.wrap (a * b))) := fun ac w hF _ => by
  simp [execOp, hF.ev hx, hF.ev hy, binOp, eqGuard, Op.intArith]
theorem RD.quo (hx : ev e x = some (.int .i64 a)) (hy : ev e y = some (.int .i64 b)) (h1 : 0 ≤ a) (h2 : a ≤ 9223372036854775807) (h3 : 0 < b) : RD C e m ⟨dst, .binOp .quo T x y T', ty, pos, aft, g⟩ (.int .i64 (a / b)) := fun ac w hF _ => by
  have hb : ¬ b = 0 := by omega
  have hd : a.tdiv b = a / b := Int.tdiv_eq_ediv_of_nonneg h1
  have h4 : 0 ≤ a / b := Int.ediv_nonneg h1 (by omega)
  have h5 : a / b ≤ a := Int.ediv_le_self _ h1
  simp [execOp, hF.ev hx, hF.ev hy, binOp, eqGuard, Op.intDiv, hb, hd, IntWalk.i64_in (a / b) ⟨by omega, by omega⟩]
theorem RD.quoT (hx : ev e x = some (.int .i64 a)) (hy : ev e y = some (.int .i64 b)) (h3 : b ≠ 0) : RD C e m ⟨dst, .binOp .quo T x y T', ty, pos, aft, g⟩ (.int .i64 (IntKind.i64.wrap (a.tdiv b))) := fun ac w hF _ => by
  simp [execOp, hF.ev hx, hF.ev hy, binOp, eqGuard, Op.intDiv, h3]
theorem RD.rem (hx : ev e x = some (.int .i64 a)) (hy : ev e y = some (.int .i64 b)) (h1 : 0 ≤ a) (h3 : 0 < b) : RD C e m ⟨dst, .binOp .rem T x y T', ty, pos, aft, g⟩ (.int .i64 (a % b)) := fun ac w hF _ => by
  have hb : ¬ b = 0 := by omega
  have hd : a.tmod b = a % b := Int.tmod_eq_emod_of_nonneg h1
  simp [execOp, hF.ev hx, hF.ev hy, binOp, eqGuard, Op.intDiv, hb, hd]
theorem RD.remT (hx : ev e x = some (.int .i64 a)) (hy : ev e y = some (.int .i64 b)) (h3 : b ≠ 0) : RD C e m ⟨dst, .binOp .rem T x y T', ty, pos, aft, g⟩ (.int .i64 (a.tmod b)) := fun ac w hF _ => by
  simp [execOp, hF.ev hx, hF.ev hy, binOp, eqGuard, Op.intDiv, h3]
theorem RD.band {k : IntKind} (hx : ev e x = some (.int k a)) (hy : ev e y = some (.int k b)) : RD C e m ⟨dst, .binOp .and T x y T', ty, pos, aft, g⟩ (.int k (k.wrap (BitVec.ofInt k.bits a &&& BitVec.ofInt k.bits b).toNat)) := fun ac w hF _ => by
  simp [execOp, hF.ev hx, hF.ev hy, binOp, eqGuard, Op.intBits]
theorem RD.bor {k : IntKind} (hx : ev e x = some (.int k a)) (hy : ev e y = some (.int k b)) : RD C e m ⟨dst, .binOp .or T x y T', ty, pos, aft, g⟩ (.int k (k.wrap (BitVec.ofInt k.bits a ||| BitVec.ofInt k.bits b).toNat)) := fun ac w hF _ => by
  simp [execOp, hF.ev hx, hF.ev hy, binOp, eqGuard, Op.intBits]
theorem RD.bxor {k : IntKind} (hx : ev e x = some (.int k a)) (hy : ev e y = some (.int k b)) : RD C e m ⟨dst, .binOp .xor T x y T', ty, pos, aft, g⟩ (.int k (k.wrap (BitVec.ofInt k.bits a ^^^ BitVec.ofInt k.bits b).toNat)) := fun ac w hF _ => by
  simp [execOp, hF.ev hx, hF.ev hy, binOp, eqGuard, Op.intBits]
theorem RD.shl {k k' : IntKind} (hx : ev e x = some (.int k a)) (hy : ev e y = some (.int k' b)) (hb : 0 ≤ b) : RD C e m ⟨dst, .binOp .shl T x y T', ty, pos, aft, g⟩ (.int k (k.wrap (a * 2 ^ (min b.toNat k.bits)))) := fun ac w hF _ => by
  have : ¬ b < 0 := by omega
  simp [execOp, hF.ev hx, hF.ev hy, binOp, eqGuard, Op.shift, this]
theorem RD.shr {k k' : IntKind} (hx : ev e x = some (.int k a)) (hy : ev e y = some (.int k' b)) (hb : 0 ≤ b) : RD C e m ⟨dst, .binOp .shr T x y T', ty, pos, aft, g⟩ (.int k (a.fdiv (2 ^ (min b.toNat k.bits)))) := fun ac w hF _ => by
  have : ¬ b < 0 := by omega
  simp [execOp, hF.ev hx, hF.ev hy, binOp, eqGuard, Op.shift, this]
theorem RD.lss {k : IntKind} (hx : ev e x = some (.int k a)) (hy : ev e y = some (.int k b)) : RD C e m ⟨dst, .binOp .lss T x y T', ty, pos, aft, g⟩ (.bool (decide (a < b))) := fun ac w hF _ => by
  simp [execOp, hF.ev hx, hF.ev hy, binOp, eqGuard, Op.intCmp]
theorem RD.leq {k : IntKind} (hx : ev e x = some (.int k a)) (hy : ev e y = some (.int k b)) : RD C e m ⟨dst, .binOp .leq T x y T', ty, pos, aft, g⟩ (.bool (decide (a ≤ b))) := fun ac w hF _ => by
  simp [execOp, hF.ev hx, hF.ev hy, binOp, eqGuard, Op.intCmp]
theorem RD.gtr {k : IntKind} (hx : ev e x = some (.int k a)) (hy : ev e y = some (.int k b)) : RD C e m ⟨dst, .binOp .gtr T x y T', ty, pos, aft, g⟩ (.bool (decide (b < a))) := fun ac w hF _ => by
  simp [execOp, hF.ev hx, hF.ev hy, binOp, eqGuard, Op.intCmp]
theorem RD.geq {k : IntKind} (hx : ev e x = some (.int k a)) (hy : ev e y = some (.int k b)) : RD C e m ⟨dst, .binOp .geq T x y T', ty, pos, aft, g⟩ (.bool (decide (b ≤ a))) := fun ac w hF _ => by
  simp [execOp, hF.ev hx, hF.ev hy, binOp, eqGuard, Op.intCmp]
theorem RD.eql {k : IntKind} (hx : ev e x = some (.int k a)) (hy : ev e y = some (.int k b)) : RD C e m ⟨dst, .binOp .eql T x y T', ty, pos, aft, g⟩ (.bool (decide (a = b))) := fun ac w hF _ => by
  simp [execOp, hF.ev hx, hF.ev hy, binOp, eqGuard, Op.intCmp]
  by_cases h : a = b <;> simp [h]
theorem RD.neq {k : IntKind} (hx : ev e x = some (.int k a)) (hy : ev e y = some (.int k b)) : RD C e m ⟨dst, .binOp .neq T x y T', ty, pos, aft, g⟩ (.bool (decide (a ≠ b))) := fun ac w hF _ => by
  simp [execOp, hF.ev hx, hF.ev hy, binOp, eqGuard, Op.intCmp]
  by_cases h : a = b <;> simp [h]
theorem RD.neg (hx : ev e x = some (.int .i64 a)) (h1 : -9223372036854775807 ≤ a) (h2 : a ≤ 9223372036854775808) : RD C e m ⟨dst, .unOp .neg T x, ty, pos, aft, g⟩ (.int .i64 (-a)) := fun ac w hF _ => by
  simp [execOp, hF.ev hx, Op.unary, Op.intArith, IntWalk.i64_in (-a) ⟨by omega, by omega⟩]
theorem RD.negW {k : IntKind} (hx : ev e x = some (.int k a)) : RD C e m ⟨dst, .unOp .neg T x, ty, pos, aft, g⟩ (.int k (k.wrap (0 - a))) := fun ac w hF _ => by
  simp [execOp, hF.ev hx, Op.unary, Op.intArith]
theorem RD.conv {k k1 k2 : IntKind} [h1 : UI C.P T (.int k1)] [h2 : UI C.P T' (.int k2)] (hx : ev e x = some (.int k a)) : RD C e m ⟨dst, .convert T T' x, ty, pos, aft, g⟩ (.int k2 (k2.wrap a)) := fun ac w hF _ => by
  simp [execOp, hF.ev hx, convert, run_underlying h1.u, run_underlying h2.u, Conv.intToInt]
theorem RD.max {k : IntKind} (hx : ev e x = some (.int k a)) (hy : ev e y = some (.int k b)) {ts : Array TypeId} : RD C e m ⟨dst, .call ⟨.builtin .max, #[x, y], ts⟩, ty, pos, aft, g⟩ (.int k (Max.max a b)) := fun ac w hF _ => by
  have : Max.max a b = if b > a then b else a := by omega
  simp [execOp, resolve, invoke, builtin, hF.ev hx, hF.ev hy, run_max_int2, this]
theorem RD.min {k : IntKind} (hx : ev e x = some (.int k a)) (hy : ev e y = some (.int k b)) {ts : Array TypeId} : RD C e m ⟨dst, .call ⟨.builtin .min, #[x, y], ts⟩, ty, pos, aft, g⟩ (.int k (Min.min a b)) := fun ac w hF _ => by
  have : Min.min a b = if b < a then b else a := by omega
  simp [execOp, resolve, invoke, builtin, hF.ev hx, hF.ev hy, run_min_int2, this]
end

/-! #### Bools -/
theorem RD.not {T : TypeId} {x : Operand} {b : Bool} (hx : ev e x = some (.bool b)) : RD C e m ⟨dst, .unOp .not T x, ty, pos, aft, g⟩ (.bool (!b)) := fun ac w hF _ => by
  simp [execOp, hF.ev hx, Op.unary]
theorem RD.notP {T : TypeId} {x : Operand} {p : Prop} [Decidable p] (hx : ev e x = some (.bool (decide p))) : RD C e m ⟨dst, .unOp .not T x, ty, pos, aft, g⟩ (.bool (decide (¬ p))) := fun ac w hF _ => by
  simp [execOp, hF.ev hx, Op.unary]
theorem RD.eqlB {T T' : TypeId} [h : UI C.P T .bool] {x y : Operand} {a b : Bool} (hx : ev e x = some (.bool a)) (hy : ev e y = some (.bool b)) : RD C e m ⟨dst, .binOp .eql T x y T', ty, pos, aft, g⟩ (.bool (a == b)) := fun ac w hF _ => by
  simp [execOp, hF.ev hx, hF.ev hy, eqGuard, run_eql_bool (P := C.P) w T a b h.u]
theorem RD.neqB {T T' : TypeId} [h : UI C.P T .bool] {x y : Operand} {a b : Bool} (hx : ev e x = some (.bool a)) (hy : ev e y = some (.bool b)) : RD C e m ⟨dst, .binOp .neq T x y T', ty, pos, aft, g⟩ (.bool (a != b)) := fun ac w hF _ => by
  simp [execOp, hF.ev hx, hF.ev hy, eqGuard, run_neq_bool (P := C.P) w T a b h.u]
  cases a <;> cases b <;> rfl

/-! #### Strings -/
theorem bs_append (a b : List UInt8) : bs a ++ bs b = bs (a ++ b) := by
  apply ByteArray.ext
  simp [bs, ByteArray.data_append]
theorem bs_size (a : List UInt8) : (bs a).size = a.length := by simp [bs, ByteArray.size]
theorem bs_toList (a : List UInt8) : (bs a).toList = a := ByteArray.toList_mk a
theorem RD.addS {T T' : TypeId} {x y : Operand} {a b : List UInt8} (hx : ev e x = some (.string (bs a))) (hy : ev e y = some (.string (bs b))) (h : a.length + b.length ≤ 9223372036854775807) : RD C e m ⟨dst, .binOp .add T x y T', ty, pos, aft, g⟩ (.string (bs (a ++ b))) := fun ac w hF _ => by
  have h' : ¬ (((bs a).size + (bs b).size : Nat) : Int) > IntKind.i64.max := by
    rw [bs_size, bs_size]
    simp only [IntKind.max, IntKind.signed, IntKind.bits, if_true]; omega
  simp only [execOp, hF.ev hx, hF.ev hy, binOp, eqGuard, Op.stringOp, bs_append, if_neg h']
  simp
theorem RD.eqlS {T T' : TypeId} {x y : Operand} {a b : List UInt8} (hx : ev e x = some (.string (bs a))) (hy : ev e y = some (.string (bs b))) : RD C e m ⟨dst, .binOp .eql T x y T', ty, pos, aft, g⟩ (.bool (decide (a = b))) := fun ac w hF _ => by
  simp [execOp, hF.ev hx, hF.ev hy, binOp, eqGuard, Op.stringOp, bs_toList]
  by_cases h : a = b <;> simp [h]
theorem RD.neqS {T T' : TypeId} {x y : Operand} {a b : List UInt8} (hx : ev e x = some (.string (bs a))) (hy : ev e y = some (.string (bs b))) : RD C e m ⟨dst, .binOp .neq T x y T', ty, pos, aft, g⟩ (.bool (decide (a ≠ b))) := fun ac w hF _ => by
  simp [execOp, hF.ev hx, hF.ev hy, binOp, eqGuard, Op.stringOp, bs_toList]
  by_cases h : a = b <;> simp [h]
theorem RD.lenS {T : TypeId} [h : UI C.P T .string] {x : Operand} {a : List UInt8} {n : Nat} (hx : ev e x = some (.string (bs a))) [hn : LenI a n] : RD C e m ⟨dst, .call ⟨.builtin .len, #[x], #[T]⟩, ty, pos, aft, g⟩ (.int .i64 (n : Int)) := fun ac w hF _ => by
  have := hn.eq
  subst this
  simp [execOp, resolve, invoke, builtin, hF.ev hx, Builtin.len_, run_underlying h.u, goInt, bs_size]
theorem RD.indexS {T : TypeId} [h : UI C.P T .string] {x y : Operand} {a : List UInt8} {k : IntKind} {i : Int} {j : Nat} (hx : ev e x = some (.string (bs a))) (hy : ev e y = some (.int k i)) [hj : ToN i j] (hlt : j < a.length) : RD C e m ⟨dst, .index T x y, ty, pos, aft, g⟩ (.int .u8 ((a.getD j 0).toNat : Int)) := fun ac w hF _ => by
  have := hj.eq
  subst this
  have hb : (bs a)[j]? = some (a[j]) := by
    have : (bs a)[j]? = (bs a).data[j]? := by
      simp only [getElem?_def]
      rfl
    rw [this]
    simp [bs, hlt]
  simp [execOp, hF.ev hx, hF.ev hy, Instr.index, asIntOf, run_underlying h.u, hb, hlt]
theorem RD.sliceS {T : TypeId} [h : UI C.P T .string] {x : Operand} {lo hi : Option Operand} {a : List UInt8} {l u : Nat} (hx : ev e x = some (.string (bs a)))
    (hlo : match lo with | none => l = 0 | some y => ∃ k i, ev e y = some (.int k i) ∧ i = (l : Int)) (hhi : match hi with | none => u = a.length | some y => ∃ k i, ev e y = some (.int k i) ∧ i = (u : Int)) (h1 : l ≤ u) (h2 : u ≤ a.length) :
    RD C e m ⟨dst, .slice T x lo hi none, ty, pos, aft, g⟩ (.string (bs ((a.take u).drop l))) := fun ac w hF _ => by
  have hext : (bs a).extract l u = bs ((a.take u).drop l) := by
    apply ByteArray.ext
    rw [ByteArray.data_extract]
    apply Array.ext'
    simp [bs, List.extract_eq_take_drop, List.drop_take]
  have hsz := bs_size a
  cases lo with
  | none =>
    subst hlo
    cases hi with
    | none =>
      subst hhi
      simp [execOp, hF.ev hx, Instr.sliceAt, Instr.slice, Instr.sliceBounds, run_underlying h.u]
    | some y =>
      obtain ⟨k, i, hy, rfl⟩ := hhi
      simp [execOp, hF.ev hx, hF.ev hy, Instr.sliceAt, Instr.slice, Instr.sliceBounds, Instr.sliceBound, asIntOf, run_underlying h.u, hsz, h2]
      simpa using hext
  | some z =>
    obtain ⟨k', i', hz, rfl⟩ := hlo
    cases hi with
    | none =>
      subst hhi
      simp [execOp, hF.ev hx, hF.ev hz, Instr.sliceAt, Instr.slice, Instr.sliceBounds, Instr.sliceBound, asIntOf, run_underlying h.u, hsz, h1]
      simpa using hext
    | some y =>
      obtain ⟨k, i, hy, rfl⟩ := hhi
      simp [execOp, hF.ev hx, hF.ev hy, hF.ev hz, Instr.sliceAt, Instr.slice, Instr.sliceBounds, Instr.sliceBound, asIntOf, run_underlying h.u, hsz, h1, h2]
      simpa using hext

/-! #### Parts, addresses, loads -/
theorem RD.extract {x : Operand} {vs : List Value} {i : Nat} {v : Value} (hx : ev e x = some (.tuple vs.toArray)) (hv : vs[i]? = some v) : RD C e m ⟨dst, .extract x i, ty, pos, aft, g⟩ v := fun ac w hF _ => by
  simp [execOp, hF.ev hx, Instr.extract, hv]
theorem RD.nilP {x : Operand} {a : Addr} (hx : ev e x = some (.pointer (some a))) : RD C e m ⟨dst, .nilCheck x, ty, pos, aft, g⟩ (.pointer (some a)) := fun ac w hF _ => by
  simp [execOp, hF.ev hx]

theorem flat_fields {P : Program} {T : TypeId} {n : Nat} (h : flatB P T n = true) : ∃ fs, P.underlying T = some (.struct fs) ∧ fs.size = n ∧ ∀ i f, fs[i]? = some f → fieldFlat P i f = true := by
  unfold flatB at h
  cases hu : P.underlying T with
  | none => rw [hu] at h; cases h
  | some d =>
    rw [hu] at h
    cases d <;> simp only [Bool.and_eq_true, beq_iff_eq] at h <;> try (cases h; done)
    rename_i fs
    refine ⟨fs, rfl, h.1, fun i f hf => ?_⟩
    have h2 := List.all_eq_true.1 h.2 (f, i) (by
      rw [List.mem_zipIdx_iff_getElem?]
      simpa using hf)
    simpa using h2
theorem flat_field {P : Program} {i : Nat} {f : Field} (h : fieldFlat P i f = true) : f.offset = i ∧ (∃ inf, P.info? f.type = some inf ∧ inf.size = 1) ∧ ∃ d, P.underlying f.type = some d ∧ (match d with | .struct _ | .array _ _ => false | _ => true) = true := by
  simp only [fieldFlat, Bool.and_eq_true, beq_iff_eq] at h
  obtain ⟨h1, h2, h3⟩ := h
  refine ⟨h1, ?_, ?_⟩
  · cases hi : P.info? f.type with
    | none => rw [hi] at h2; cases h2
    | some inf => rw [hi] at h2; exact ⟨inf, rfl, by simpa using h2⟩
  · cases hd : P.underlying f.type with
    | none => rw [hd] at h3; cases h3
    | some d =>
      rw [hd] at h3
      refine ⟨d, rfl, ?_⟩
      cases d <;> first | rfl | cases h3
theorem FlatI.size {P : Program} {T : TypeId} {z : List Value} (h : FlatI P T z) : ∃ i, P.info? T = some i ∧ i.zero = some (.agg z.toArray) ∧ i.size = z.length := by
  obtain ⟨i, hi, hz⟩ := Option.map_eq_some_iff.1 h.info
  simp only [Prod.mk.injEq] at hz
  exact ⟨i, hi, hz.1, hz.2⟩
theorem run_isAgg_flat {P : Program} {T : TypeId} {z : List Value} [h : FlatI P T z] (w : World) : (isAgg T).run P w = .ok true w := by
  obtain ⟨fs, hu, _⟩ := flat_fields h.flat
  simp [isAgg, run_underlying hu]
theorem run_sizeOf_flat {P : Program} {T : TypeId} {z : List Value} [h : FlatI P T z] (w : World) : (sizeOf T).run P w = .ok z.length w := by
  obtain ⟨i, hi, _, hs⟩ := h.size
  simp [sizeOf, typeInfo, hi, hs]
theorem run_isAgg_one {P : Program} {T : TypeId} [h : OneC P T] (w : World) : (isAgg T).run P w = .ok false w := by
  obtain ⟨d, hu, hd⟩ := h.u
  simp only [isAgg, Sem.run_bind, run_underlying hu, Result.andThen_ok]
  cases d <;> first | rfl | cases hd
theorem run_sizeOf_one {P : Program} {T : TypeId} [h : OneC P T] (w : World) : (sizeOf T).run P w = .ok 1 w := by
  obtain ⟨i, hi, hs⟩ := h.i
  simp [sizeOf, typeInfo, hi, hs]

theorem RD.field {T : TypeId} {z : List Value} [h : FlatI C.P T z] {x : Operand} {cs : List Value} {i : Nat} {v : Value} (hx : ev e x = some (.agg cs.toArray)) (hi : Nat.blt i z.length = true) (hv : cs[i]? = some v) : RD C e m ⟨dst, .field T x i, ty, pos, aft, g⟩ v := fun ac w hF _ => by
  obtain ⟨fs, hu, hn, hf⟩ := flat_fields h.flat
  have hi' : i < fs.size := by rw [hn]; simpa [Nat.blt_eq] using hi
  obtain ⟨h1, ⟨inf, hinf, hs⟩, d, hd, hna⟩ := flat_field (hf i fs[i] (by simp [hi']))
  have hia : (isAgg fs[i].type).run C.P w = .ok false w := by
    simp only [isAgg, Sem.run_bind, run_underlying hd, Result.andThen_ok]
    cases d <;> first | rfl | cases hna
  simp [execOp, hF.ev hx, Instr.field, run_underlying hu, hi', asAgg, part, hia, h1, hv]

theorem run_fieldAt {P : Program} {T : TypeId} {z : List Value} [h : FlatI P T z] (w : World) (b off i : Nat) (hi : Nat.blt i z.length = true) : (Instr.fieldAt T (.pointer (some ⟨b, off, none⟩)) i).run P w = .ok (.pointer (some ⟨b, off + i, none⟩)) w := by
  obtain ⟨fs, hu, hn, hf⟩ := flat_fields h.flat
  have hi' : i < fs.size := by rw [hn]; simpa [Nat.blt_eq] using hi
  obtain ⟨h1, ⟨inf, hinf, hs⟩, d, hd, hna⟩ := flat_field (hf i fs[i] (by simp [hi']))
  have hadd : (⟨b, off, none⟩ : Addr).add i = ⟨b, off + i, none⟩ := by
    unfold Addr.add
    split
    · simp_all
    · rfl
  simp [Instr.fieldAt, run_underlying hu, hi', Instr.sureAddr, fieldPlace, sizeOf, typeInfo, hinf, hs, h1, hadd]

theorem RD.fieldC {T : TypeId} {z : List Value} [h : FlatI C.P T z] {x : Operand} {b off i : Nat} (hx : ev e x = some (.pointer (some ⟨b, off, none⟩))) (hi : Nat.blt i z.length = true) : RD C e m ⟨dst, .fieldAddr T x i, ty, pos, aft, g⟩ (.pointer (some ⟨b, off + i, none⟩)) := fun ac w hF _ => by
  simp [execOp, hF.ev hx, run_fieldAt (T := T) w b off i hi]
theorem RD.fieldE {T : TypeId} {z : List Value} [h : FlatI C.P T z] {x : Operand} {v : Value} {sz j f i : Nat} (hx : ev e x = some (pe v sz j f)) (hi : Nat.blt i z.length = true) : RD C e m ⟨dst, .fieldAddr T x i, ty, pos, aft, g⟩ (pe v sz j (f + i)) := fun ac w hF _ => by
  unfold pe at hx ⊢
  simp [execOp, hF.ev hx, run_fieldAt (T := T) w _ _ i hi, Nat.add_assoc]

theorem SlI.parts {P : Program} {T E : TypeId} {z : Value} {sz by_ : Nat} (h : SlI P T E z sz by_) : ∃ i, P.info? E = some i ∧ i.zero = some z ∧ i.size = sz ∧ i.bytes = by_ := info_parts h.info

theorem RDP.idx {T E : TypeId} {z : Value} {sz by_ : Nat} [h : SlI C.P T E z sz by_] {x y : Operand} {v : Value} {ls : List (List Value)} {sz' : Nat} [hr : RdI m v sz' ls] {k : IntKind} {i : Int} {j n : Nat}
    (hx : ev e x = some v) (hy : ev e y = some (.int k i)) [hj : ToN i j] [hn : LenI ls n] (hlt : j < n) (hsz : Nat.beq sz sz' = true) : RDP C e m ⟨dst, .indexAddr T x y, ty, pos, aft, g⟩ (pe v sz' j 0) := fun ac w hF hS w' => by
  have e1 := hj.eq
  have e2 := hn.eq
  have e3 : sz = sz' := Nat.eq_of_beq_eq_true hsz
  subst e1 e2 e3
  obtain ⟨a, cap, hv, _, ha, hsp⟩ := (hr.rd hS).shape
  obtain ⟨inf, hinf, _, hs, _⟩ := h.parts
  cases a with
  | none => rw [ha rfl] at hlt; simp at hlt
  | some a =>
    have hadd : a.add (j * sz) = ⟨a.block, a.off + j * sz, none⟩ := by
      have := hsp a rfl (fun hh => by rw [hh] at hlt; simp at hlt)
      unfold Addr.add
      cases a
      simp only at this
      subst this
      split
      · simp_all
      · rfl
    rw [hv] at hx
    simp [execOp, hF.ev hx, hF.ev hy, Instr.indexAt, asIntOf, run_underlying h.u, hlt, sizeOf, typeInfo, hinf, hs, hadd, pe, hv, gOf, oOf]

theorem RD.idx {T E : TypeId} {z : Value} {sz by_ : Nat} [h : SlI C.P T E z sz by_] {x y : Operand} {v : Value} {ls : List (List Value)} {sz' : Nat} [hr : RdI m v sz' ls] {k : IntKind} {i : Int} {j n : Nat}
    (hx : ev e x = some v) (hy : ev e y = some (.int k i)) [hj : ToN i j] [hn : LenI ls n] (hlt : j < n) (hsz : Nat.beq sz sz' = true) : RD C e m ⟨dst, .indexAddr T x y, ty, pos, aft, g⟩ (pe v sz' j 0) := fun ac w hF hS => RDP.idx (C := C) hx hy hlt hsz ac w hF hS w
theorem RDP.lenR {T E : TypeId} {z : Value} {sz by_ : Nat} [h : SlI C.P T E z sz by_] {x : Operand} {v : Value} {ls : List (List Value)} {sz' n : Nat} [hr : RdI m v sz' ls] (hx : ev e x = some v) [hn : LenI ls n] : RDP C e m ⟨dst, .call ⟨.builtin .len, #[x], #[T]⟩, ty, pos, aft, g⟩ (.int .i64 (n : Int)) := fun ac w hF hS w' => by
  have e2 := hn.eq
  subst e2
  obtain ⟨a, cap, hv, _⟩ := (hr.rd hS).shape
  rw [hv] at hx
  simp [execOp, resolve, invoke, builtin, hF.ev hx, Builtin.len_, run_underlying h.u, goInt]

theorem RD.lenR {T E : TypeId} {z : Value} {sz by_ : Nat} [h : SlI C.P T E z sz by_] {x : Operand} {v : Value} {ls : List (List Value)} {sz' n : Nat} [hr : RdI m v sz' ls] (hx : ev e x = some v) [hn : LenI ls n] : RD C e m ⟨dst, .call ⟨.builtin .len, #[x], #[T]⟩, ty, pos, aft, g⟩ (.int .i64 (n : Int)) := fun ac w hF hS => RDP.lenR (C := C) hx ac w hF hS w
/-- One cell of a variable. -/
theorem RD.loadC {T T' : TypeId} [h : OneC C.P T] {x : Operand} {b off : Nat} {c : List Value} {r : List En} {v : Value} [hm : CellsI m b T' c r] (hx : ev e x = some (.pointer (some ⟨b, off, none⟩))) (hv : c[off]? = some v) : RD C e m ⟨dst, .load T x, ty, pos, aft, g⟩ v := fun ac w hF hS => by
  have hb : w.heap[b]? = some (.cells c.toArray T' (0, 0)) := hS.holds _ (hm.perm.mem_iff.2 (List.mem_cons_self ..))
  have hc : w.cell? ⟨b, off, none⟩ = some v := by rw [cell_of_row w b off _ T' (0, 0) hb]; simpa using hv
  simp [execOp, hF.ev hx, Instr.loadAt, Instr.sureAddr, loadVar, run_isAgg_one (T := T), hc]
theorem run_loadVar_whole {P : Program} {T : TypeId} {z : List Value} [h : FlatI P T z] {w : World} {b : Nat} {T' : TypeId} {c : List Value} (hb : w.heap[b]? = some (.cells c.toArray T' (0, 0))) (hl : c.length = z.length) : (loadVar T ⟨b, 0, none⟩).run P w = .ok (.agg c.toArray) w := by
  have hl2 := run_loadCells_list (P := P) w ⟨b, 0, none⟩ c (fun j v hj => by
    have : (⟨b, 0, none⟩ : Addr).add j = ⟨b, j, none⟩ := by unfold Addr.add; split <;> simp_all
    rw [this, cell_of_row w b j _ T' (0, 0) hb]; simpa using hj)
  simp [loadVar, run_isAgg_flat (T := T), run_sizeOf_flat (T := T), ← hl, hl2]
/-- A struct variable, whole. -/
theorem RD.loadA {T T' : TypeId} {z : List Value} [h : FlatI C.P T z] {x : Operand} {b : Nat} {c : List Value} {r : List En} [hm : CellsI m b T' c r] (hx : ev e x = some (.pointer (some ⟨b, 0, none⟩))) (hl : Nat.beq c.length z.length = true) : RD C e m ⟨dst, .load T x, ty, pos, aft, g⟩ (.agg c.toArray) := fun ac w hF hS => by
  have hb : w.heap[b]? = some (.cells c.toArray T' (0, 0)) := hS.holds _ (hm.perm.mem_iff.2 (List.mem_cons_self ..))
  simp [execOp, hF.ev hx, Instr.loadAt, Instr.sureAddr, run_loadVar_whole (T := T) hb (Nat.eq_of_beq_eq_true hl)]
/-- One cell of an element. -/
theorem RD.loadE {T : TypeId} [h : OneC C.P T] {x : Operand} {v : Value} {sz i f : Nat} {ls : List (List Value)} {y : List Value} {u : Value} {n : Nat} (hx : ev e x = some (pe v sz i f)) [hr : RdI m v sz ls] [hy : ElI ls i y] [hn : LenI ls n] (hlt : i < n) (hu : y[f]? = some u) : RD C e m ⟨dst, .load T x, ty, pos, aft, g⟩ u := fun ac w hF hS => by
  have e2 := hn.eq
  subst e2
  have hc := (hr.rd hS).cell i y (hy.eq hlt) f u hu
  unfold pe at hx
  simp [execOp, hF.ev hx, Instr.loadAt, Instr.sureAddr, loadVar, run_isAgg_one (T := T), hc]
/-- A whole element that is a struct. -/
theorem RD.loadEA {T : TypeId} {z : List Value} [h : FlatI C.P T z] {x : Operand} {v : Value} {sz i : Nat} {ls : List (List Value)} {y : List Value} {n : Nat} (hx : ev e x = some (pe v sz i 0)) [hr : RdI m v sz ls] [hy : ElI ls i y] [hn : LenI ls n] (hlt : i < n) (hz : Nat.beq sz z.length = true) : RD C e m ⟨dst, .load T x, ty, pos, aft, g⟩ (.agg y.toArray) := fun ac w hF hS => by
  have e2 := hn.eq
  subst e2
  have hrd := hr.rd hS
  have hyl := hy.eq hlt
  have hsz : y.length = sz := hrd.size y (List.mem_of_getElem? hyl)
  have hz' : sz = z.length := Nat.eq_of_beq_eq_true hz
  have hl2 := run_loadCells_list (P := C.P) w ⟨gOf v, oOf v + (i * sz + 0), none⟩ y (fun j u hj => by
    have : (⟨gOf v, oOf v + (i * sz + 0), none⟩ : Addr).add j = ⟨gOf v, oOf v + (i * sz + j), none⟩ := by
      unfold Addr.add
      split
      · simp_all
      · simp [Nat.add_assoc]
    rw [this]
    exact hrd.cell i y hyl j u hj)
  unfold pe at hx
  rw [hsz, hz'] at hl2
  simp only [execOp, hF.ev hx, Instr.loadAt, Instr.sureAddr, loadVar, Sem.run_bind, Sem.run_pure, Result.andThen_ok, run_isAgg_flat (T := T), if_true, run_sizeOf_flat (T := T)]
  rw [hz'] at *
  rw [hl2]
  rfl
end
end Go.Proofs.Ytljllahlnbkimaa
