/- Arguments that came in, opened: what they read as, in the words of the symbolic machine. No statement of the seat is proved here. -/
import Derived.Test.YtmkalfofmodbdaaSh
import Derived.ProofKit
import Derived.OpenShut
import Derived.ShutString
import Derived.ChangeOld
import Derived.Below
import Derived.Deep.Slices
import Derived.Deep.Fields
import Derived.Lib.SmallJoins
namespace Go.Proofs.Ytmkalfofmodbdaa
open Go Go.RowKit Go.ChangeShapes Go.WideShapes Go.Deep

theorem cellsOf_one {P : Program} {T : TypeId} [h : OneC P T] : P.cellsOf T = 1 := by
  obtain ⟨i, hi, hs⟩ := h.i
  simp [Program.cellsOf, hi, hs]
theorem cellsOf_flat {P : Program} {T : TypeId} {z : List Value} [h : FlatI P T z] : P.cellsOf T = z.length := by
  obtain ⟨i, hi, _, hs⟩ := h.size
  simp [Program.cellsOf, hi, hs]

def InI64 (x : Int) : Prop := -9223372036854775808 ≤ x ∧ x ≤ 9223372036854775807

section
variable {H : Type} {enc : TypeId × Value → H} {P : Program} {w : World} {base : Nat} {held : Bool}

/-- A slice whose elements read one by one. -/
theorem open_rd {α : Type} {T E : TypeId} [hT : UI P T (.slice E)] {sz : Nat} (hc : P.cellsOf E = sz) (hsz : 0 < sz) (F : α → List Value) (Q : α → Prop) {fuel : Nat} {v : Value} {x : DataW H × List MemPlace}
    (hel : ∀ (n : Nat) (cs : List Value) (y : DataW H × List MemPlace), cs.length = sz → DataW.trod enc P w base (fun _ => true) held n E cs = some y → ∃ a, cs = F a ∧ Q a)
    (h : DataW.trod enc P w base (fun _ => true) held fuel T [v] = some x) : ∃ xs : List α, Rd w v sz (xs.map F) ∧ ∀ a ∈ xs, Q a := by
  rcases open_slice hT.u h with ⟨hcs, _⟩ | ⟨a, len, cap, m, n, D, Pl, hcs, _, hl, hm, hmm, _, hi⟩
  · simp only [List.cons.injEq, and_true] at hcs
    subst hcs
    exact ⟨[], ⟨⟨none, 0, rfl, by simp, fun _ => rfl, fun g hg _ => by cases hg⟩, by simp, (fun i x hi => by simp at hi), fun a n c hc => by cases hc; exact Nat.le_refl _⟩, by simp⟩
  · simp only [List.cons.injEq, and_true] at hcs
    subst hcs
    simp only [if_true] at hmm
    subst hmm
    have hall : ∀ i, i < len → ∃ a', (∀ f u, (F a')[f]? = some u → w.cell? ((a.add (i * sz)).add f) = some u) ∧ Q a' ∧ (F a').length = sz := by
      intro i hil
      obtain ⟨cs', hcells, ht⟩ := hi i (by omega)
      rw [hc] at hcells
      obtain ⟨_, hlen, hat⟩ := World.cells?_some hcells
      obtain ⟨a', rfl, hq⟩ := hel _ _ _ hlen ht
      refine ⟨a', fun f u hu => ?_, hq, hlen⟩
      have hf : f < sz := by rw [← hlen]; exact (List.getElem?_eq_some_iff.1 hu).1
      rw [hat f hf, hu]
    have hbuild : ∀ k, k ≤ len → ∃ xs : List α, xs.length = k ∧ (∀ i a', xs[i]? = some a' → (∀ f u, (F a')[f]? = some u → w.cell? ((a.add (i * sz)).add f) = some u) ∧ Q a' ∧ (F a').length = sz) := by
      intro k
      induction k with
      | zero => intro _; exact ⟨[], rfl, fun i a' h => by simp at h⟩
      | succ k ih =>
        intro hk
        obtain ⟨xs, hxl, hxs⟩ := ih (by omega)
        obtain ⟨a', ha'⟩ := hall k (by omega)
        refine ⟨xs ++ [a'], by simp [hxl], fun i b hb => ?_⟩
        by_cases hik : i < xs.length
        · rw [List.getElem?_append_left hik] at hb
          exact hxs i b hb
        · rw [List.getElem?_append_right (by omega)] at hb
          have : i = k := by
            have := (List.getElem?_eq_some_iff.1 hb).1
            simp at this; omega
          subst this
          simp only [hxl, Nat.sub_self, List.getElem?_cons_zero, Option.some.injEq] at hb
          subst hb
          exact ha'
    obtain ⟨xs, hxl, hxs⟩ := hbuild len (Nat.le_refl _)
    have hspot : len ≠ 0 → a.spot = none := by
      intro hne
      obtain ⟨a', h1, _, h3⟩ := hall 0 (by omega)
      have h4 : (F a')[0]? = some (F a')[0] := by simp [List.getElem?_eq_getElem (show 0 < (F a').length by omega)]
      have h5 := World.cell?_spot (h1 0 _ h4)
      simpa [Addr.add] using h5
    refine ⟨xs, ⟨⟨some a, m, by rw [List.length_map, hxl], ?_, (fun hh => by cases hh), fun g hg hne => ?_⟩, ?_, ?_, fun a' n' c hc => by cases hc; exact hl⟩, ?_⟩
    · rw [List.length_map, hxl]
      unfold maxLen at hm; omega
    · cases hg
      exact hspot (by intro h0; apply hne; rw [← List.length_eq_zero_iff, List.length_map, hxl, h0])
    · intro y hy
      obtain ⟨a', ha', rfl⟩ := List.mem_map.1 hy
      obtain ⟨i, hi', hia⟩ := List.getElem_of_mem ha'
      exact (hxs i a' (by rw [List.getElem?_eq_getElem hi', hia])).2.2
    · intro i y hy f u hu
      rw [List.getElem?_map, Option.map_eq_some_iff] at hy
      obtain ⟨a', ha', rfl⟩ := hy
      have h1 := (hxs i a' ha').1 f u hu
      have hlt : i < len := by rw [← hxl]; exact (List.getElem?_eq_some_iff.1 ha').1
      have hsp := hspot (by omega)
      have ha : a = ⟨a.block, a.off, none⟩ := by cases a; simp only at hsp; rw [hsp]
      rw [ha, addr_add, addr_add, Nat.add_assoc] at h1
      exact h1
    · intro a' ha'
      obtain ⟨i, hi', hia⟩ := List.getElem_of_mem ha'
      exact (hxs i a' (by rw [List.getElem?_eq_getElem hi', hia])).2.1

theorem open_rd_ints {T E : TypeId} [hT : UI P T (.slice E)] [hE : UI P E (.int .i64)] [h1 : OneC P E] {fuel : Nat} {v : Value} {x : DataW H × List MemPlace}
    (h : DataW.trod enc P w base (fun _ => true) held fuel T [v] = some x) : ∃ xs : List Int, Rd w v 1 (xs.map iv) ∧ ∀ a ∈ xs, InI64 a :=
  open_rd cellsOf_one (by decide) iv InI64 (fun n cs y _ ht => by
    obtain ⟨a, rfl, _, hwf⟩ := DataW.trod_int hE.u ht
    exact ⟨a, rfl, bounds_i64 hwf⟩) h
theorem open_rd_bytes {T E : TypeId} [hT : UI P T (.slice E)] [hE : UI P E (.int .u8)] [h1 : OneC P E] {fuel : Nat} {v : Value} {x : DataW H × List MemPlace}
    (h : DataW.trod enc P w base (fun _ => true) held fuel T [v] = some x) : ∃ xs : List UInt8, Rd w v 1 (xs.map yv) ∧ ∀ a ∈ xs, True :=
  open_rd cellsOf_one (by decide) yv (fun _ => True) (fun n cs y _ ht => by
    obtain ⟨a, rfl, _, hwf⟩ := DataW.trod_int hE.u ht
    have hb := bounds_u8 hwf
    refine ⟨UInt8.ofNat a.toNat, ?_, trivial⟩
    unfold yv
    have : ((UInt8.ofNat a.toNat).toNat : Int) = a := by
      rw [UInt8.toNat_ofNat']
      omega
    rw [this]) h
theorem open_rd_bars {T E : TypeId} {F0 : TypeId} [hT : UI P T (.slice E)] [hE : FlatI P E [.int .i64 0, .int .i64 0]] [hF : UI P F0 (.int .i64)] {f0 f1 : Field} (hs : P.underlying E = some (.struct #[f0, f1])) (ht0 : f0.type = F0) (ht1 : f1.type = F0) {fuel : Nat} {v : Value} {x : DataW H × List MemPlace}
    (h : DataW.trod enc P w base (fun _ => true) held fuel T [v] = some x) : ∃ xs : List (Int × Int), Rd w v 2 (xs.map bv) ∧ ∀ a ∈ xs, InI64 a.1 ∧ InI64 a.2 :=
  open_rd (sz := 2) (cellsOf_flat (T := E) (z := [.int .i64 0, .int .i64 0])) (by decide) bv (fun a => InI64 a.1 ∧ InI64 a.2) (fun n cs y hl ht => by
    obtain ⟨fs, hu, hn, hf⟩ := flat_fields hE.flat
    rw [hs] at hu
    injection hu with hu
    injection hu with hu
    subst hu
    obtain ⟨o0, ⟨i0, hi0, s0⟩, _⟩ := flat_field (hf 0 f0 rfl)
    obtain ⟨o1, ⟨i1, hi1, s1⟩, _⟩ := flat_field (hf 1 f1 rfl)
    have c0 : P.cellsOf f0.type = 1 := by simp [Program.cellsOf, hi0, s0]
    have c1 : P.cellsOf f1.type = 1 := by simp [Program.cellsOf, hi1, s1]
    obtain ⟨ys, n', _, _, _, hyl, hg⟩ := DataW.trod_struct hs ht
    have hyl2 : ys.length = 2 := hyl
    match cs, hl with
    | [u0, u1], _ =>
      have g0 := hg 0 f0 rfl
      have g1 := hg 1 f1 rfl
      have l0 : (0 : Nat) < ys.length := by omega
      have l1 : (1 : Nat) < ys.length := by omega
      rw [o0, c0, ht0, List.getElem?_eq_getElem l0] at g0
      rw [o1, c1, ht1, List.getElem?_eq_getElem l1] at g1
      simp only [List.drop_zero, List.take_succ_cons, List.take_zero, List.drop_succ_cons] at g0 g1
      obtain ⟨a, ha, _, hwa⟩ := DataW.trod_int hF.u g0
      obtain ⟨b, hb, _, hwb⟩ := DataW.trod_int hF.u g1
      simp only [List.cons.injEq, and_true] at ha hb
      subst ha hb
      exact ⟨(a, b), rfl, bounds_i64 hwa, bounds_i64 hwb⟩) h

/-- What came in is as it was. -/
theorem Pure.trod {T : TypeId} (hl : laidOutB P = true) (hr : P.readableRec T = true) (hrow : T < P.types.size) {W W' : World} {v : Value} {d : DataW H} {ps : List MemPlace}
    (h : DataW.Trod enc P W 0 (fun _ => true) true T v d ps) (hp : Pure W W') : DataW.Trod enc P W' 0 (fun b => decide (b < W.heap.size)) true T v d ps :=
  Below.trod hl hr hrow h hp.below (by obtain ⟨m, hm⟩ := h; exact DataW.trod_lt m _ _ _ hm)
end
end Go.Proofs.Ytmkalfofmodbdaa
