/- The judgements of the symbolic machine: code, regions in either form, loops, cuts, ends. No statement of the seat is proved here. -/
import Derived.Test.YtmkalfofmodbdaaSy
import Derived.OrdersHeld
namespace Go.Proofs.Ytmkalfofmodbdaa
open Go Go.RowKit

/-! ### Choosing entries -/
inductive SubM : List En → List En → Prop
  | nil {m : List En} : SubM [] m
  | cons {x : En} {m r m' : List En} (h : m.Perm (x :: r)) (t : SubM m' r) : SubM (x :: m') m
theorem SubM.perm {m m' : List En} (s : SubM m' m) : ∃ r, m.Perm (m' ++ r) := by
  induction s with
  | nil => exact ⟨_, List.Perm.refl _⟩
  | cons h _ ih =>
    obtain ⟨r, hr⟩ := ih
    exact ⟨r, h.trans (hr.cons _)⟩
theorem St.subM {w0 w : World} {mu : Nat → Prop} {m m' : List En} (h : St w0 mu m w) (s : SubM m' m) : St w0 mu m' w := by
  obtain ⟨r, hr⟩ := s.perm
  exact (h.perm hr).sub (List.sublist_append_left _ _)

/-- The entry x stands in m; r is what is left. -/
class Rem (m : List En) (x : En) (r : outParam (List En)) : Prop where
  perm : m.Perm (x :: r)
instance Rem.here {x : En} {m : List En} : Rem (x :: m) x m := ⟨List.Perm.refl _⟩
instance (priority := 900) Rem.there {x y : En} {m r : List En} [h : Rem m x r] : Rem (y :: m) x (y :: r) := ⟨(h.perm.cons y).trans (List.Perm.swap x y r)⟩
class SubI (m' m : List En) : Prop where
  sub : SubM m' m
instance SubI.nil {m : List En} : SubI [] m := ⟨.nil⟩
instance SubI.cons {x : En} {m r m' : List En} [h : Rem m x r] [t : SubI m' r] : SubI (x :: m') m := ⟨.cons h.perm t.sub⟩

/-- The cells of block b, found in m. -/
class CellsI (m : List En) (b : Nat) (T : outParam TypeId) (c : outParam (List Value)) (r : outParam (List En)) : Prop where
  perm : m.Perm (.cells b T c :: r)
instance CellsI.here {b : Nat} {T : TypeId} {c : List Value} {m : List En} : CellsI (.cells b T c :: m) b T c m := ⟨List.Perm.refl _⟩
instance (priority := 900) CellsI.there {b : Nat} {T : TypeId} {c : List Value} {y : En} {m r : List En} [h : CellsI m b T c r] : CellsI (y :: m) b T c (y :: r) := ⟨(h.perm.cons y).trans (List.Perm.swap _ y r)⟩
/-- The row that the slice value v owns, found in m. -/
class RowI (m : List En) (v : Value) (T : outParam TypeId) (sz : outParam Nat) (ls : outParam (List (List Value))) (r : outParam (List En)) : Prop where
  perm : m.Perm (.row v T sz ls :: r)
instance RowI.here {v : Value} {T : TypeId} {sz : Nat} {ls : List (List Value)} {m : List En} : RowI (.row v T sz ls :: m) v T sz ls m := ⟨List.Perm.refl _⟩
instance (priority := 900) RowI.there {v : Value} {T : TypeId} {sz : Nat} {ls : List (List Value)} {y : En} {m r : List En} [h : RowI m v T sz ls r] : RowI (y :: m) v T sz ls (y :: r) := ⟨(h.perm.cons y).trans (List.Perm.swap _ y r)⟩
/-- What the slice value v reads as, found in m. -/
class RdI (m : List En) (v : Value) (sz : outParam Nat) (ls : outParam (List (List Value))) : Prop where
  rd : ∀ {w0 w : World} {mu : Nat → Prop}, St w0 mu m w → Rd w v sz ls

theorem Own.rd {w : World} {v : Value} {T : TypeId} {sz : Nat} {ls : List (List Value)} (h : Own w v T sz ls) : Rd w v sz ls := by
  have hlen := h.owns.1
  rcases h.owns.2 with ⟨hv, hn⟩ | ⟨g, cap, cur, hv, _, hg, hnc, hcm, hcs, htake⟩
  · have hls : ls = [] := List.eq_nil_of_length_eq_zero hn
    subst hls
    exact ⟨⟨none, 0, hv, by simp, fun _ => rfl, fun g hg _ => by cases hg⟩, h.size, (fun i x hi => by simp at hi), fun a n c hc => by rw [hv] at hc; cases hc; exact Nat.le_refl _⟩
  · refine ⟨⟨some ⟨g, 0, none⟩, cap, hv, ?_, (fun hh => by cases hh), fun g' hg' _ => by cases hg'; rfl⟩, h.size, ?_, fun a n c hc => by rw [hv] at hc; cases hc; exact hnc⟩
    · unfold maxLen at hcm; omega
    intro i x hi f u hu
    subst hv
    have hx : x.length = sz := h.size x (List.mem_of_getElem? hi)
    have hf : f < sz := by rw [← hx]; exact (List.getElem?_eq_some_iff.1 hu).1
    have key : ∀ (l : List (List Value)) (i : Nat) (x : List Value), (∀ y ∈ l, y.length = sz) → l[i]? = some x → ∀ f u, x[f]? = some u → f < sz → l.flatten[i * sz + f]? = some u := by
      intro l
      induction l with
      | nil => intro i x _ hi; simp at hi
      | cons y l ih =>
        intro i x hs hi f u hu hf
        have hy : y.length = sz := hs y (by simp)
        cases i with
        | zero =>
          simp at hi; subst hi
          simp only [Nat.zero_mul, Nat.zero_add, List.flatten_cons]
          rw [List.getElem?_append_left (by omega)]; exact hu
        | succ i =>
          simp only [List.getElem?_cons_succ] at hi
          simp only [List.flatten_cons]
          rw [List.getElem?_append_right (by rw [hy, Nat.succ_mul]; omega)]
          have := ih i x (fun z hz => hs z (by simp [hz])) hi f u hu hf
          rw [← this]
          congr 1
          rw [hy, Nat.succ_mul]; omega
    have h1 := key ls i x h.size hi f u hu hf
    show w.cell? ⟨g, 0 + (i * sz + f), none⟩ = some u
    rw [Nat.zero_add, cell_of_row w g _ cur T (0, 0) hg]
    rw [← htake, List.getElem?_take] at h1
    split at h1
    · simpa using h1
    · cases h1

instance RdI.row {v : Value} {T : TypeId} {sz : Nat} {ls : List (List Value)} {m : List En} : RdI (.row v T sz ls :: m) v sz ls := ⟨fun h => Own.rd (h.holds _ (List.mem_cons_self ..))⟩
instance RdI.ro {v : Value} {sz : Nat} {ls : List (List Value)} {m : List En} : RdI (.ro v sz ls :: m) v sz ls := ⟨fun h => h.holds _ (List.mem_cons_self ..)⟩
instance (priority := 900) RdI.there {v : Value} {sz : Nat} {ls : List (List Value)} {y : En} {m : List En} [h : RdI m v sz ls] : RdI (y :: m) v sz ls := ⟨fun hs => h.rd (hs.sub (List.sublist_cons_self _ _))⟩

/-! ### What stands behind -/
structure Cx where
  P : Program
  fn : Func
  w0 : World
  mu : Nat → Prop
  R : Ending → World → Prop
abbrev Cx.n (C : Cx) : Nat := C.fn.ntmps

inductive It where
  | seq (c : Code)
  | block (id : Nat)
  | cut (inv : Env → List En → Prop)

def Post (C : Cx) : List It → Exit → Act → World → Prop
  | [] => bodyPost C.P C.fn C.R
  | .seq c :: k => Exit.then (c.wp C.P (Post C k)) (Post C k)
  | .block id :: k => Exit.inBlock id (Post C k)
  | .cut inv :: k => Exit.then (fun a w => ∃ e m, inv e m ∧ FR C.n a e ∧ St C.w0 C.mu m w) (Post C k)

theorem Post.panic {C : Cx} : ∀ (k : List It) (ch : List PanicEntry) (a : Act) (w : World), Post C k (.panic ch) a w = (a.defers = [] ∧ C.R (.panicked ch) w)
  | [], _, _, _ => rfl
  | .seq _ :: k, ch, a, w => Post.panic k ch a w
  | .block _ :: k, ch, a, w => Post.panic k ch a w
  | .cut _ :: k, ch, a, w => Post.panic k ch a w
theorem Post.put {C : Cx} (k : List It) (d : Option Tmp) (v : Value) (ch : List PanicEntry) (a : Act) (w : World) (h : Post C k (.panic ch) (a.put d v) w) : Post C k (.panic ch) a w := by
  rw [Post.panic] at *
  cases d <;> exact h

/-- Code c, run in a frame and a memory of which e and m are known, ends well for what stands behind it. -/
def J (C : Cx) (c : Code) (k : List It) (e : Env) (m : List En) : Prop :=
  ∀ a w, FR C.n a e → St C.w0 C.mu m w → c.wp C.P (Post C k) a w
def JE (C : Cx) (x : Exit) (k : List It) (e : Env) (m : List En) : Prop :=
  ∀ a w, FR C.n a e → St C.w0 C.mu m w → Post C k x a w
def WL (C : Cx) (ops : Array Oper) (k : List It) (e : Env) (m : List En) (l : List Oper) : Prop :=
  ∀ a w, FR C.n a e → St C.w0 C.mu m w → wpList C.P ops (Post C k) l a w

section
variable {C : Cx} {k : List It} {e : Env} {m : List En}

theorem J.skip (h : JE C .normal k e m) : J C .skip k e m := fun a w hf hs => wp_skip (h a w hf hs)
theorem J.label {l : Nat} (h : JE C .normal k e m) : J C (.label l) k e m := fun a w hf hs => wp_label (h a w hf hs)
theorem J.exit {id : Nat} (h : JE C (.exit id) k e m) : J C (.exit id) k e m := fun a w hf hs => wp_exit (h a w hf hs)
theorem J.ret (h : JE C .ret k e m) : J C .ret k e m := fun a w hf hs => wp_ret (h a w hf hs)
theorem J.seq {x y : Code} (h : J C x (.seq y :: k) e m) : J C (.seq x y) k e m := fun a w hf hs => wp_seq (h a w hf hs)
theorem J.block {id : Nat} {c : Code} (h : J C c (.block id :: k) e m) : J C (.block id c) k e m := fun a w hf hs => wp_block (h a w hf hs)
theorem J.cond {x : Operand} {b : Bool} {s t : Code} (hx : ev e x = some (.bool b)) (ht : b = true → J C s k e m) (hf : b = false → J C t k e m) : J C (.cond x s t) k e m :=
  fun a w hF hS => wp_cond_split (hF.ev hx) (fun h => ht h a w hF hS) (fun h => hf h a w hF hS)
theorem J.condP {x : Operand} {p : Prop} [Decidable p] {s t : Code} (hx : ev e x = some (.bool (decide p))) (ht : p → J C s k e m) (hf : ¬ p → J C t k e m) : J C (.cond x s t) k e m :=
  J.cond hx (fun h => ht (of_decide_eq_true h)) (fun h => hf (of_decide_eq_false h))
theorem J.condT {x : Operand} {s t : Code} (hx : ev e x = some (.bool true)) (ht : J C s k e m) : J C (.cond x s t) k e m :=
  J.cond hx (fun _ => ht) (fun h => by cases h)
theorem J.condF {x : Operand} {s t : Code} (hx : ev e x = some (.bool false)) (hf : J C t k e m) : J C (.cond x s t) k e m :=
  J.cond hx (fun h => by cases h) (fun _ => hf)
theorem J.cut {x y : Code} (mid : Env → List En → Prop) (hx : J C x (.cut mid :: .seq y :: k) e m) (hy : ∀ e m, mid e m → J C y k e m) : J C (.seq x y) k e m := by
  intro a w hF hS
  refine wp_seq (Code.wp_mono ?_ (hx a w hF hS))
  intro ex a' w' hq
  cases ex with
  | normal =>
    obtain ⟨e', m', hm, hF', hS'⟩ := hq
    exact hy e' m' hm a' w' hF' hS'
  | _ => exact hq
/-- A cut behind a piece of code that is followed by what the stack says. -/
theorem J.cutK {x : Code} (mid : Env → List En → Prop) (hx : J C x (.cut mid :: k) e m) (hy : ∀ e m, mid e m → JE C .normal k e m) : J C x k e m := by
  intro a w hF hS
  refine Code.wp_mono ?_ (hx a w hF hS)
  intro ex a' w' hq
  cases ex with
  | normal =>
    obtain ⟨e', m', hm, hF', hS'⟩ := hq
    exact hy e' m' hm a' w' hF' hS'
  | _ => exact hq

/-- A loop: the relation speaks of a number that every round lowers. -/
theorem wp_loop_ghost {P : Program} {c : Code} {Q : Exit → Act → World → Prop} (I : Nat → Act → World → Prop)
    (round : ∀ g a w, I g a w → c.wp P (Exit.then (fun a' w' => ∃ g', g' < g ∧ I g' a' w') Q) a w) :
    ∀ g a w, I g a w → (Code.loop c).wp P Q a w := by
  intro g a w h0 b k cs
  have key : ∀ n a w, I n a w →
      ∃ e a' w', Q e a' w' ∧ Arrives P (lone (b.at a (.code c :: .inLoop c :: k)) cs w) b k cs e a' w' := by
    intro n
    induction n using Nat.strongRecOn with
    | _ n ih =>
      intro a w hI
      obtain ⟨e, a₁, w₁, hq, harr⟩ := round n a w hI b (.inLoop c :: k) cs
      cases e with
      | normal =>
        obtain ⟨g', hlt, hI₁⟩ := hq
        obtain ⟨e₂, a₂, w₂, hq₂, harr₂⟩ := ih g' hlt a₁ w₁ hI₁
        exact ⟨e₂, a₂, w₂, hq₂, .of_steps (Steps.trans harr (.one step_inLoop)) harr₂⟩
      | exit id => exact ⟨_, a₁, w₁, hq, .pass (x := .inLoop c) rfl (fun _ _ => .inl (by simp)) harr⟩
      | goto l => exact ⟨_, a₁, w₁, hq, .pass (x := .inLoop c) rfl (fun _ _ => .inl (by simp)) harr⟩
      | ret => exact ⟨_, a₁, w₁, hq, .pass (x := .inLoop c) rfl (fun _ _ => .inl (by simp)) harr⟩
      | panic ch => exact ⟨_, a₁, w₁, hq, .pass (x := .inLoop c) rfl (fun _ _ => .inl (by simp)) harr⟩
      | outgrown => exact ⟨_, a₁, w₁, hq, .pass (x := .inLoop c) rfl (fun _ _ => .inl (by simp)) harr⟩
  obtain ⟨e, a', w', hq, harr⟩ := key _ a w h0
  exact ⟨e, a', w', hq, .of_steps (.one step_loop) harr⟩

theorem J.loop {c : Code} (inv : Nat → Env → List En → Prop) (g0 : Nat) {e0 : Env} {m0 : List En} (h0 : inv g0 e0 m0) (he : Sub e0 e) (hm : SubM m0 m)
    (round : ∀ g e m, inv g e m → J C c (.cut (fun e' m' => ∃ g', g' < g ∧ inv g' e' m') :: k) e m) : J C (.loop c) k e m := by
  intro a w hF hS
  refine wp_loop_ghost (fun g a w => ∃ e m, inv g e m ∧ FR C.n a e ∧ St C.w0 C.mu m w) ?_ g0 a w ⟨e0, m0, h0, hF.weaken he, hS.subM hm⟩
  rintro g a w ⟨e, m, hI, hF, hS⟩
  refine Code.wp_mono ?_ (round g e m hI a w hF hS)
  intro ex a' w' hq
  cases ex with
  | normal =>
    obtain ⟨e', m', ⟨g', hlt, hI'⟩, hF', hS'⟩ := hq
    exact ⟨g', hlt, e', m', hI', hF', hS'⟩
  | _ => exact hq

/-! ### Ends -/
theorem JE.seqN {c : Code} (h : J C c k e m) : JE C .normal (.seq c :: k) e m := h
theorem JE.blockN {id : Nat} (h : JE C .normal k e m) : JE C .normal (.block id :: k) e m := h
theorem JE.cutN {inv : Env → List En → Prop} {e' : Env} {m' : List En} (h : inv e' m') (he : Sub e' e) (hm : SubM m' m) : JE C .normal (.cut inv :: k) e m :=
  fun _ _ hF hS => ⟨e', m', h, hF.weaken he, hS.subM hm⟩
theorem JE.seqX {id : Nat} {c : Code} (h : JE C (.exit id) k e m) : JE C (.exit id) (.seq c :: k) e m := h
theorem JE.cutX {id : Nat} {inv : Env → List En → Prop} (h : JE C (.exit id) k e m) : JE C (.exit id) (.cut inv :: k) e m := h
theorem JE.blockHit {id : Nat} (h : JE C .normal k e m) : JE C (.exit id) (.block id :: k) e m := by
  intro a w hF hS
  show Exit.inBlock id (Post C k) (.exit id) a w
  simp only [Exit.inBlock, if_true]
  exact h a w hF hS
theorem JE.blockMiss {id id' : Nat} (hne : Nat.beq id id' = false) (h : JE C (.exit id) k e m) : JE C (.exit id) (.block id' :: k) e m := by
  intro a w hF hS
  show Exit.inBlock id' (Post C k) (.exit id) a w
  have : ¬ id = id' := fun hh => by subst hh; simp at hne
  simp only [Exit.inBlock, this, if_false]
  exact h a w hF hS
theorem JE.seqR {c : Code} (h : JE C .ret k e m) : JE C .ret (.seq c :: k) e m := h
theorem JE.cutR {inv : Env → List En → Prop} (h : JE C .ret k e m) : JE C .ret (.cut inv :: k) e m := h
theorem JE.blockR {id : Nat} (h : JE C .ret k e m) : JE C .ret (.block id :: k) e m := h
theorem J.weaken {c : Code} {e' : Env} {m' : List En} (he : Sub e' e) (hm : SubM m' m) (h : J C c k e' m') : J C c k e m :=
  fun a w hF hS => h a w (hF.weaken he) (hS.subM hm)
theorem JE.weaken {x : Exit} {e' : Env} {m' : List En} (he : Sub e' e) (hm : SubM m' m) (h : JE C x k e' m') : JE C x k e m :=
  fun a w hF hS => h a w (hF.weaken he) (hS.subM hm)

/-! ### Results -/
/-- The results' values. -/
inductive ResL (P : Program) (e : Env) (m : List En) : List ResultVar → List Value → Prop
  | nil : ResL P e m [] []
  | tmp {t : Tmp} {v : Value} {rs : List ResultVar} {vs : List Value} (h : look e t = some v) (r : ResL P e m rs vs) : ResL P e m (.tmp t :: rs) (v :: vs)
  | cell {p : Tmp} {T : TypeId} {b : Nat} {v : Value} {rs : List ResultVar} {vs : List Value} (h : look e p = some (.pointer (some ⟨b, 0, none⟩)))
      (hl : ∀ {w0 w : World} {mu : Nat → Prop}, St w0 mu m w → (loadVar T ⟨b, 0, none⟩).run P w = .ok v w) (r : ResL P e m rs vs) : ResL P e m (.cell p T :: rs) (v :: vs)
end
end Go.Proofs.Ytmkalfofmodbdaa
