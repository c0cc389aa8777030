/- A small symbolic machine over the model: frames as association lists, own memory as a list of entries, judgements on code, rules for each operation. No statement of the seat is proved here. -/
import Derived.WalkKit
import Derived.Deep.Quiet
import Derived.KernelRfl
namespace Go.Proofs.Ytmkalfofmodbdaa
open Go Go.RowKit

/-! ### Frames -/
abbrev Env := List (Nat × Value)
def look : Env → Nat → Option Value
  | [], _ => none
  | (d, v) :: e, t => bif Nat.beq d t then some v else look e t

structure FR (n : Nat) (a : Act) (e : Env) : Prop where
  size : a.tmps.size = n
  defers : a.defers = []
  at_ : ∀ t v, look e t = some v → a.tmps[t]? = some v

def ev (e : Env) : Operand → Option Value
  | .tmp t => look e t
  | .const v => some v
  | .global g => some (.pointer (some ⟨g, 0, none⟩))
  | .func f => some (.func (.func f) #[] #[])

theorem beq_ff {d t : Nat} (h : ¬ d = t) : Nat.beq d t = false := by
  cases hb : Nat.beq d t with
  | false => rfl
  | true => exact absurd (Nat.eq_of_beq_eq_true hb) h

theorem FR.ev {n : Nat} {a : Act} {e : Env} (h : FR n a e) {x : Operand} {v : Value} (hx : ev e x = some v) : a.eval x = v := by
  cases x with
  | tmp t =>
    have := h.at_ t v hx
    simp [Act.eval, Array.getD_eq_getD_getElem?, this]
  | const u => simpa [Proofs.Ytmkalfofmodbdaa.ev, Act.eval] using hx
  | global g => simpa [Proofs.Ytmkalfofmodbdaa.ev, Act.eval] using hx
  | func f => simpa [Proofs.Ytmkalfofmodbdaa.ev, Act.eval] using hx

theorem FR.put {n : Nat} {a : Act} {e : Env} (h : FR n a e) {d : Nat} (hd : d < n) (v : Value) : FR n (a.put (some d) v) ((d, v) :: e) := by
  refine ⟨by simp [Act.put, h.size], by simp [Act.put, h.defers], fun t u hu => ?_⟩
  simp only [Act.put, Array.getElem?_setIfInBounds, h.size]
  simp only [look] at hu
  by_cases hdt : d = t
  · subst hdt
    simp only [Nat.beq_refl, cond_true, Option.some.injEq] at hu
    simp [hd, hu]
  · rw [beq_ff hdt] at hu
    simp only [cond_false] at hu
    rw [if_neg hdt]
    exact h.at_ t u hu

inductive Sub : Env → Env → Prop
  | nil {e : Env} : Sub [] e
  | cons {e' e : Env} {t : Nat} {v : Value} (h : look e t = some v) (r : Sub e' e) : Sub ((t, v) :: e') e

theorem FR.weaken {n : Nat} {a : Act} {e e' : Env} (h : FR n a e) (s : Sub e' e) : FR n a e' := by
  refine ⟨h.size, h.defers, ?_⟩
  induction s with
  | nil => intro t v hx; cases hx
  | @cons e' e t2 v2 hl _ ih =>
    intro t v hx
    simp only [look] at hx
    by_cases hd : t2 = t
    · subst hd
      simp only [Nat.beq_refl, cond_true, Option.some.injEq] at hx
      subst hx
      exact h.at_ _ _ hl
    · rw [beq_ff hd] at hx
      exact ih h t v hx

/-! ### Memory: entries -/
inductive En where
  | cells (b : Nat) (T : TypeId) (c : List Value)
  | row (v : Value) (T : TypeId) (sz : Nat) (ls : List (List Value))
  | ro (v : Value) (sz : Nat) (ls : List (List Value))
  | obj (b : Nat) (o : Obj)

def gOf : Value → Nat
  | .slice (some a) _ _ => a.block
  | _ => 0
def oOf : Value → Nat
  | .slice (some a) _ _ => a.off
  | _ => 0

/-- The slice value v reads as the list of elements ls, each of sz cells. -/
structure Rd (w : World) (v : Value) (sz : Nat) (ls : List (List Value)) : Prop where
  shape : ∃ a cap, v = .slice a ls.length cap ∧ ls.length ≤ 9223372036854775807 ∧ (a = none → ls = []) ∧ ∀ g, a = some g → ls ≠ [] → g.spot = none
  size : ∀ x ∈ ls, x.length = sz
  cell : ∀ (i : Nat) (x : List Value), ls[i]? = some x → ∀ (f : Nat) (u : Value), x[f]? = some u → w.cell? ⟨gOf v, oOf v + (i * sz + f), none⟩ = some u
  fits : ∀ a n cap, v = .slice a n cap → n ≤ cap

structure Own (w : World) (v : Value) (T : TypeId) (sz : Nat) (ls : List (List Value)) : Prop where
  size : ∀ x ∈ ls, x.length = sz
  owns : w.ownsRow 0 T sz v ls.length ls.flatten

def En.holds (w : World) : En → Prop
  | .cells b T c => w.heap[b]? = some (.cells c.toArray T (0, 0))
  | .row v T sz ls => Own w v T sz ls
  | .ro v sz ls => Rd w v sz ls
  | .obj b o => w.heap[b]? = some o

/-- The block that an entry owns. -/
def En.blk : En → Option Nat
  | .cells b _ _ => some b
  | .row v _ _ _ => v.ownBlock
  | .ro _ _ _ => none
  | .obj b _ => some b

/-- The block that an entry only reads. -/
def En.rdb : En → Option Nat
  | .ro v _ (_ :: _) => v.ownBlock
  | _ => none

/-- w' is w but for new blocks and writes to the blocks named. -/
structure Ext (w w' : World) (ch : Nat → Prop) : Prop where
  os : w'.os = w.os
  tape : w'.tape = w.tape
  output : w'.output = w.output
  size : w.heap.size ≤ w'.heap.size
  block : ∀ k, k < w.heap.size → ¬ ch k → w'.heap[k]? = w.heap[k]?

structure St (w0 : World) (mu : Nat → Prop) (m : List En) (w : World) : Prop where
  ext : Ext w0 w mu
  holds : ∀ x ∈ m, x.holds w
  nodup : (m.filterMap En.blk).Nodup
  own : ∀ b ∈ m.filterMap En.blk, w0.heap.size ≤ b ∨ mu b
  ro : ∀ x ∈ m, ∀ b, x.rdb = some b → b < w0.heap.size ∧ ¬ mu b

theorem Ext.refl (w : World) (ch : Nat → Prop) : Ext w w ch := ⟨rfl, rfl, rfl, Nat.le_refl _, fun _ _ _ => rfl⟩
theorem Ext.trans {a b c : World} {ch : Nat → Prop} (h : Ext a b ch) (k : Ext b c ch) : Ext a c ch :=
  ⟨k.os.trans h.os, k.tape.trans h.tape, k.output.trans h.output, Nat.le_trans h.size k.size,
    fun i hi hn => (k.block i (Nat.lt_of_lt_of_le hi h.size) hn).trans (h.block i hi hn)⟩
theorem Ext.mono {a b : World} {ch ch' : Nat → Prop} (h : Ext a b ch) (hc : ∀ k, k < a.heap.size → ch k → ch' k) : Ext a b ch' :=
  ⟨h.os, h.tape, h.output, h.size, fun k hk hn => h.block k hk (fun x => hn (hc k hk x))⟩
/-- No old block is written. -/
abbrev Pure (w w' : World) : Prop := Ext w w' fun _ => False
theorem Pure.below {w w' : World} (h : Pure w w') : Below w.heap.size w w' := ⟨h.os, h.tape, h.output, h.size, fun k hk => h.block k hk id⟩
theorem Ext.drew (w : World) (ch : Nat → Prop) : Ext w w.drew ch := ⟨rfl, rfl, rfl, Nat.le_refl _, fun _ _ _ => rfl⟩
theorem Ext.alloc (w : World) (o : Obj) (ch : Nat → Prop) : Ext w (w.alloc o) ch := ⟨rfl, rfl, rfl, by simp, fun k hk _ => Below.heap_alloc w o k hk⟩
theorem Ext.of_grown {w w' : World} {r : Option Nat} (h : w.grownBy w' r) : Ext w w' (fun k => some k = r) :=
  ⟨h.os, h.tape, h.output, h.size, fun k hk hn => h.block k hk hn⟩

/-- A step that writes at most the blocks 'ch' (and makes new ones) keeps whatever entry lies elsewhere. -/
theorem Rd.keep {w w' : World} {v : Value} {sz : Nat} {ls : List (List Value)} (h : Rd w v sz ls) {ch : Nat → Prop} (hx : Ext w w' ch) (hn : ls ≠ [] → ∀ b, v.ownBlock = some b → ¬ ch b) : Rd w' v sz ls := by
  refine ⟨h.shape, h.size, fun i x hi f u hu => ?_, h.fits⟩
  have hne : ls ≠ [] := fun hh => by rw [hh] at hi; simp at hi
  have hc := h.cell i x hi f u hu
  have hlt := World.block_lt_of_cell? w _ hc
  rw [World.cell?_of_block (w := w) (hx.block _ hlt ?_)]
  · exact hc
  · obtain ⟨a, cap, hv, _, hz, _⟩ := h.shape
    cases a with
    | none => rw [hz rfl] at hi; simp at hi
    | some a => exact hn hne _ (by rw [hv]; rfl)

theorem Own.keep {w w' : World} {v : Value} {T : TypeId} {sz : Nat} {ls : List (List Value)} (h : Own w v T sz ls) {ch : Nat → Prop} (hx : Ext w w' ch) (hn : ∀ b, v.ownBlock = some b → ¬ ch b) : Own w' v T sz ls := by
  refine ⟨h.size, h.owns.1, ?_⟩
  rcases h.owns.2 with hnil | ⟨g, cap, cur, hv, hb, hg, rest⟩
  · exact .inl hnil
  · refine .inr ⟨g, cap, cur, hv, hb, ?_, rest⟩
    have hlt : g < w.heap.size := (Array.getElem?_eq_some_iff.1 hg).1
    rw [hx.block g hlt (hn g (by rw [hv]; rfl))]
    exact hg

theorem En.keep {w w' : World} {x : En} (h : x.holds w) {ch : Nat → Prop} (hx : Ext w w' ch) (hn : ∀ b, x.blk = some b → ¬ ch b) (hr : ∀ b, x.rdb = some b → ¬ ch b) : x.holds w' := by
  cases x with
  | cells b T c =>
    have hlt : b < w.heap.size := (Array.getElem?_eq_some_iff.1 h).1
    show w'.heap[b]? = _
    rw [hx.block b hlt (hn b rfl)]; exact h
  | row v T sz ls => exact Own.keep h hx hn
  | ro v sz ls => exact Rd.keep h hx (fun hne b hb => hr b (by cases ls with | nil => exact absurd rfl hne | cons y ys => exact hb))
  | obj b o =>
    have hlt : b < w.heap.size := (Array.getElem?_eq_some_iff.1 h).1
    show w'.heap[b]? = _
    rw [hx.block b hlt (hn b rfl)]; exact h

theorem En.blk_lt {w : World} {x : En} (h : x.holds w) {b : Nat} (hb : x.blk = some b) : b < w.heap.size := by
  cases x with
  | cells b' T c => cases hb; exact (Array.getElem?_eq_some_iff.1 h).1
  | row v T sz ls => exact (h.owns.lt b hb).2
  | ro v sz ls => cases hb
  | obj b' o => cases hb; exact (Array.getElem?_eq_some_iff.1 h).1

section st
variable {w0 w w' : World} {mu : Nat → Prop} {m : List En}

theorem St.blk_lt (h : St w0 mu m w) : ∀ b ∈ m.filterMap En.blk, b < w.heap.size := by
  intro b hb
  obtain ⟨x, hx, hxb⟩ := List.mem_filterMap.1 hb
  exact En.blk_lt (h.holds x hx) hxb

/-- Nothing that is named is written: the state is kept. -/
theorem St.pure (h : St w0 mu m w) (hx : Pure w w') : St w0 mu m w' :=
  ⟨h.ext.trans (hx.mono fun _ _ => False.elim), fun x hm => En.keep (h.holds x hm) hx (fun _ _ => id) (fun _ _ => id), h.nodup, h.own, h.ro⟩

/-- New entries over new blocks. -/
theorem St.add (h : St w0 mu m w) (hx : Pure w w') {x : En} (hh : x.holds w') (hb : ∀ b, x.blk = some b → w.heap.size ≤ b) (hr : x.rdb = none) : St w0 mu (x :: m) w' := by
  have h' := h.pure hx
  refine ⟨h'.ext, ?_, ?_, ?_, ?_⟩
  · intro y hy
    rcases List.mem_cons.1 hy with rfl | hy
    · exact hh
    · exact h'.holds y hy
  · cases hk : x.blk with
    | none => simpa [List.filterMap_cons, hk] using h.nodup
    | some b =>
      simp only [List.filterMap_cons, hk, List.nodup_cons]
      refine ⟨fun hm => ?_, h.nodup⟩
      have := h.blk_lt b hm
      have := hb b hk
      omega
  · intro b hbm
    cases hk : x.blk with
    | none => exact h.own b (by simpa [List.filterMap_cons, hk] using hbm)
    | some b' =>
      simp only [List.filterMap_cons, hk, List.mem_cons] at hbm
      rcases hbm with rfl | hbm
      · exact .inl (Nat.le_trans h.ext.size (hb _ hk))
      · exact h.own b hbm
  · intro y hy b hyb
    rcases List.mem_cons.1 hy with rfl | hy
    · rw [hr] at hyb; cases hyb
    · exact h.ro y hy b hyb

/-- A read-only entry is no more than a reading of an old block. -/
theorem St.addRo (h : St w0 mu m w) {v : Value} {sz : Nat} {ls : List (List Value)} (hr : Rd w v sz ls) (hb : ls ≠ [] → ∀ b, v.ownBlock = some b → b < w0.heap.size ∧ ¬ mu b) : St w0 mu (.ro v sz ls :: m) w := by
  refine ⟨h.ext, ?_, by simpa [List.filterMap_cons, En.blk] using h.nodup, by simpa [List.filterMap_cons, En.blk] using h.own, ?_⟩
  · intro y hy
    rcases List.mem_cons.1 hy with rfl | hy
    · exact hr
    · exact h.holds y hy
  · intro y hy b hyb
    rcases List.mem_cons.1 hy with rfl | hy
    · cases ls with
      | nil => cases hyb
      | cons y ys => exact hb (by simp) b hyb
    · exact h.ro y hy b hyb

theorem St.sub {m' : List En} (h : St w0 mu m w) (hs : m'.Sublist m) : St w0 mu m' w :=
  ⟨h.ext, fun x hx => h.holds x (hs.subset hx), h.nodup.sublist (hs.filterMap _), fun b hb => h.own b ((hs.filterMap _).subset hb), fun x hx => h.ro x (hs.subset hx)⟩

theorem St.perm {m' : List En} (h : St w0 mu m w) (hs : m.Perm m') : St w0 mu m' w :=
  ⟨h.ext, fun x hx => h.holds x (hs.mem_iff.2 hx), (hs.filterMap _).nodup h.nodup, fun b hb => h.own b ((hs.filterMap _).mem_iff.2 hb), fun x hx => h.ro x (hs.mem_iff.2 hx)⟩

/-- One entry's block is written; its new entry lies over the same block, or over a new one. -/
theorem St.write {x y : En} (h : St w0 mu (x :: m) w) (hx : Ext w w' (fun k => x.blk = some k)) (hy : y.holds w') (hyb : ∀ b, y.blk = some b → x.blk = some b ∨ w.heap.size ≤ b) (hyr : y.rdb = none) : St w0 mu (y :: m) w' := by
  have hnd : ∀ z ∈ m, ∀ b, z.blk = some b → ¬ x.blk = some b := by
    intro z hz b hzb hxb
    have := h.nodup
    simp only [List.filterMap_cons, hxb, List.nodup_cons] at this
    exact this.1 (List.mem_filterMap.2 ⟨z, hz, hzb⟩)
  have hnr : ∀ z ∈ m, ∀ b, z.rdb = some b → ¬ x.blk = some b := by
    intro z hz b hzb hxb
    have h1 := h.ro z (List.mem_cons_of_mem _ hz) b hzb
    have h2 := h.own b (by simp [hxb])
    rcases h2 with h2 | h2
    · omega
    · exact h1.2 h2
  have hown : ∀ b, x.blk = some b → w0.heap.size ≤ b ∨ mu b := fun b hb => h.own b (by simp [hb])
  have hm : St w0 mu m w := h.sub (List.sublist_cons_self _ _)
  have hlt := hm.blk_lt
  refine ⟨?_, ?_, ?_, ?_, ?_⟩
  · refine ⟨hx.os.trans h.ext.os, hx.tape.trans h.ext.tape, hx.output.trans h.ext.output, Nat.le_trans h.ext.size hx.size, fun k hk hn => ?_⟩
    rw [hx.block k (Nat.lt_of_lt_of_le hk h.ext.size) (fun hb => (hown k hb).elim (fun h1 => by omega) hn)]
    exact h.ext.block k hk hn
  · intro z hz
    rcases List.mem_cons.1 hz with rfl | hz
    · exact hy
    · exact En.keep (hm.holds z hz) hx (hnd z hz) (hnr z hz)
  · cases hk : y.blk with
    | none => simpa [List.filterMap_cons, hk] using hm.nodup
    | some b =>
      simp only [List.filterMap_cons, hk, List.nodup_cons]
      refine ⟨fun hmem => ?_, hm.nodup⟩
      rcases hyb b hk with h1 | h1
      · obtain ⟨z, hz, hzb⟩ := List.mem_filterMap.1 hmem
        exact hnd z hz b hzb h1
      · have := hlt b hmem
        omega
  · intro b hbm
    cases hk : y.blk with
    | none => exact hm.own b (by simpa [List.filterMap_cons, hk] using hbm)
    | some b' =>
      simp only [List.filterMap_cons, hk, List.mem_cons] at hbm
      rcases hbm with rfl | hbm
      · rcases hyb _ hk with h1 | h1
        · exact hown _ h1
        · exact .inl (Nat.le_trans h.ext.size h1)
      · exact hm.own b hbm
  · intro z hz b hzb
    rcases List.mem_cons.1 hz with rfl | hz
    · rw [hyr] at hzb; cases hzb
    · exact hm.ro z hz b hzb
end st
end Go.Proofs.Ytmkalfofmodbdaa
