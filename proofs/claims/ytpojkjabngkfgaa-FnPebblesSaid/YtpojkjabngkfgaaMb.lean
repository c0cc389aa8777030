/- What the statement on the game asks. No program in sight. -/
import Derived.Test.YtpojkjabngkfgaaMy
namespace Go.Proofs.Ytpojkjabngkfgaa

/-- A state of small lists with small numbers. -/
def pOk (b : Int) (p : PS) : Prop := (p.f.length ≤ 100 ∧ p.t.length ≤ 100 ∧ p.pl.length ≤ 100) ∧ ∀ z ∈ p.f, 0 ≤ z ∧ z ≤ b
theorem pOk.bf {b : Int} {p : PS} (h : pOk b p) (hb : b ≤ 100) : ∀ x ∈ p.f, x ≤ 9223372036854775807 := fun x hx => by
  have := (h.2 x hx).2; omega
theorem pOk.up {p : PS} (h : pOk 3 p) : pOk 4 p := ⟨h.1, fun z hz => by have := h.2 z hz; omega⟩
theorem pOk_new (n k : Int) (xs : List (Int × Int)) : pOk 3 ⟨if isG n xs ∧ 1 ≤ k ∧ k ≤ 3 then List.replicate n.toNat k else [], [], []⟩ := by
  have hl := newP_len n k xs
  refine ⟨⟨by dsimp only; omega, by simp, by simp⟩, fun z hz => ?_⟩
  dsimp only at hz
  split at hz
  · rename_i h
    have := List.eq_of_mem_replicate hz
    subst this
    have := h.2
    omega
  · simp at hz
theorem pOk_inc {p : PS} (h : pOk 3 p) (hp : 0 < p.f.length) : pOk 4 ⟨p.f.set 0 (p.f.getD 0 default + 1), p.t, p.pl⟩ := by
  refine ⟨⟨by rw [List.length_set]; exact h.1.1, h.1.2⟩, fun z hz => ?_⟩
  rcases List.mem_or_eq_of_mem_set hz with hz | hz
  · have := h.2 z hz; omega
  · have := h.2 _ (getD_mem' (default : Int) hp); omega
theorem pOk_place {n k l : Int} {xs : List (Int × Int)} {p : PS} {i : Int} (h : pOk 3 p) : pOk 3 (pbI n xs k l p.f p.t p.pl i).1 := by
  unfold pbI
  split
  · rename_i hh
    obtain ⟨⟨g1, g2, g3, g4⟩, g5⟩ := hh
    have hp := isP_ok g1
    have hg := g1.1
    have hxs := hg.2.2.1
    have hn1 := hg.1
    have hn8 := hg.2.1
    obtain ⟨e1, e2, e3⟩ := (gGood hg).e i.toNat (by omega)
    have hgs := gathP_spec (n := n.toNat) (k := k) (xs := xs) (a := (exs xs i.toNat).1) (b := (exs xs i.toNat).2) (want := l + 1) (by omega) (by omega) (by omega) 8 ⟨p.f, p.t, p.pl⟩ hp (by have h1 := hp.pos (exs xs i.toNat).1 (by omega) (by omega); have h2 := hp.pos (exs xs i.toNat).2 (by omega) (by omega); simp only at h1 h2 ⊢; omega)
    have q5 : (gatP n.toNat xs l ⟨p.f, p.t, p.pl⟩ i.toNat).2 = true := by rw [← place_isSome]; exact g5
    have q1 := hgs.1.fl
    have q2 := hgs.1.pv.tl
    have q3 := hgs.2.1
    have q4 := asc_len hp
    have q6 := hgs.2.2.1 q5
    have q7 := fv_rng hgs.1 (v := (exs xs i.toNat).1) (by omega) (by omega)
    have q8 := fv_rng hgs.1 (v := (exs xs i.toNat).2) (by omega) (by omega)
    simp only at q3 q4
    rw [plc_yes q5]
    unfold putP
    have r1 : (gatP n.toNat xs l ⟨p.f, p.t, p.pl⟩ i.toNat).1.f.length = n.toNat := q1
    have r3 : (gatP n.toNat xs l ⟨p.f, p.t, p.pl⟩ i.toNat).1.pl.length = p.pl.length := by show (gathP _ _ _ _ _ _ _).1.pl.length = _; rw [q3]
    have r2 : (gatP n.toNat xs l ⟨p.f, p.t, p.pl⟩ i.toNat).1.t.length = (gatP n.toNat xs l ⟨p.f, p.t, p.pl⟩ i.toNat).1.pl.length := q2
    refine ⟨?_, fun z hz => ?_⟩
    · simp only [List.length_set, List.length_append, List.length_singleton]
      omega
    · rcases List.mem_or_eq_of_mem_set hz with hz | hz
      · obtain ⟨j, hj, rfl⟩ := mem_getD default hz
        have := fv_rng hgs.1 (v := (j : Int)) (by omega) (by omega)
        unfold gI at this
        rw [Int.toNat_natCast] at this
        have hz' : (gatP n.toNat xs l ⟨p.f, p.t, p.pl⟩ i.toNat).1.f.getD j default = (gathP n.toNat xs (exs xs i.toNat).1 (exs xs i.toNat).2 (l + 1) 8 ⟨p.f, p.t, p.pl⟩).1.f.getD j default := rfl
        rw [hz']
        omega
      · have ht : 1 ≤ gI (gatP n.toNat xs l ⟨p.f, p.t, p.pl⟩ i.toNat).1.f (tailP (gatP n.toNat xs l ⟨p.f, p.t, p.pl⟩ i.toNat).1 (exs xs i.toNat)) ∧ gI (gatP n.toNat xs l ⟨p.f, p.t, p.pl⟩ i.toNat).1.f (tailP (gatP n.toNat xs l ⟨p.f, p.t, p.pl⟩ i.toNat).1 (exs xs i.toNat)) ≤ 3 := by
          unfold tailP
          have s1 : gI (gatP n.toNat xs l ⟨p.f, p.t, p.pl⟩ i.toNat).1.f (exs xs i.toNat).1 = gI (gathP n.toNat xs (exs xs i.toNat).1 (exs xs i.toNat).2 (l + 1) 8 ⟨p.f, p.t, p.pl⟩).1.f (exs xs i.toNat).1 := rfl
          have s2 : gI (gatP n.toNat xs l ⟨p.f, p.t, p.pl⟩ i.toNat).1.f (exs xs i.toNat).2 = gI (gathP n.toNat xs (exs xs i.toNat).1 (exs xs i.toNat).2 (l + 1) 8 ⟨p.f, p.t, p.pl⟩).1.f (exs xs i.toNat).2 := rfl
          split
          · rename_i h0; omega
          · rename_i h0; omega
        omega
  · exact h
section
variable {n k l : Int} {xs : List (Int × Int)}
theorem run_facts (h : isG n xs ∧ rngK k l) : (isP n xs k (runP n k l xs).f (runP n k l xs).t (runP n k l xs).pl ∧ ((runP n k l xs).pl.length : Int) + ((pickIx (rejF n k l xs) xs.length).length : Int) = (xs.length : Int)) ∧
    (fpI (runP n k l xs).f + ((runP n k l xs).pl.length : Int) = k * n ∧ 0 ≤ k * n ∧ k * n ≤ 300) ∧ ((((pickIx (rejF n k l xs) xs.length).length : Int) = 0) ↔ ((isG n xs ∧ rngK k l) ∧ ovI n k l xs = none)) ∧
    ((isG n (onlyP (fun j => decide (j ∈ (runP n k l xs).pl)) xs xs.length) ∧ rngK k l) ∧ ovI n k l (onlyP (fun j => decide (j ∈ (runP n k l xs).pl)) xs xs.length) = none) := by
  obtain ⟨hg, hr⟩ := h
  have h1 := acc_rej hg hr
  have h2 := free_sum hg ⟨hr.1, hr.2.1⟩ (run_ok hg hr).1
  have h3 := mul_rng (k := k) (n := n) ⟨hr.1, hr.2.1⟩ ⟨by have := hg.1; omega, by have := hg.2.1; omega⟩
  refine ⟨⟨run_isP hg hr, by omega⟩, ⟨h2, h3.1, h3.2⟩, ⟨fun hh => ⟨⟨hg, hr⟩, (sparse_rej hg hr).2 (by omega)⟩, fun hh => by have := (sparse_rej hg hr).1 hh.2; omega⟩, ⟨isG_only hg _, hr⟩, acc_sparse hg hr⟩
theorem gp_ix {f t pl : List Int} {a b want : Int} (h : (gpI n xs k f t pl a b want).2 = true) : (0 ≤ a ∧ a < ((gpI n xs k f t pl a b want).1.f.length : Int)) ∧ (0 ≤ b ∧ b < ((gpI n xs k f t pl a b want).1.f.length : Int)) ∧
    (0 ≤ (gpI n xs k f t pl a b want).1.f.getD a.toNat default ∧ (gpI n xs k f t pl a b want).1.f.getD a.toNat default ≤ 3) ∧ (0 ≤ (gpI n xs k f t pl a b want).1.f.getD b.toNat default ∧ (gpI n xs k f t pl a b want).1.f.getD b.toNat default ≤ 3) := by
  have h1 := (gp_facts h).1.1
  have h2 : gpOk n xs k f t pl a b want := by
    apply Classical.byContradiction
    intro hh
    rw [gpI_no hh] at h; cases h
  have hk := h1.2.1
  have hn := h1.2.2.1
  have ha := h2.2.1
  have hb := h2.2.2.1
  have hp := isP_ok h1
  have e1 := fv_rng hp (v := a) (by omega) (by omega)
  have e2 := fv_rng hp (v := b) (by omega) (by omega)
  unfold gI at e1 e2
  refine ⟨by omega, by omega, ?_, ?_⟩
  · have e1' : 0 ≤ (gpI n xs k f t pl a b want).1.f.getD a.toNat default ∧ (gpI n xs k f t pl a b want).1.f.getD a.toNat default ≤ k := e1
    omega
  · have e2' : 0 ≤ (gpI n xs k f t pl a b want).1.f.getD b.toNat default ∧ (gpI n xs k f t pl a b want).1.f.getD b.toNat default ≤ k := e2
    omega
theorem isP_bf {f t pl : List Int} (h : isP n xs k f t pl) : ∀ x ∈ f, x ≤ 9223372036854775807 := by
  obtain ⟨g1, g2, g3, g4, g5, g6⟩ := h
  have hn8 := g1.2.1
  intro x hx
  obtain ⟨j, hj, rfl⟩ := mem_getD default hx
  have := g6 j (by omega)
  have h7 := this.1
  have h8 := this.2
  omega
theorem gpI_bnd {f t pl : List Int} {a b want : Int} (h : pOk 4 ⟨f, t, pl⟩) : (gpI n xs k f t pl a b want).1.f.length ≤ 1048576 ∧ (gpI n xs k f t pl a b want).1.t.length ≤ 1048576 ∧ (gpI n xs k f t pl a b want).1.pl.length ≤ 1048576 ∧ ∀ x ∈ (gpI n xs k f t pl a b want).1.f, x ≤ 9223372036854775807 := by
  by_cases hh : (gpI n xs k f t pl a b want).2 = true
  · have h1 := (gp_facts hh).1.1
    obtain ⟨g1, g2, g3, g4, g5, g6⟩ := h1
    have hn8 := g1.2.1
    have hpx := asc_len (isP_ok ⟨g1, g2, g3, g4, g5, g6⟩)
    simp only at hpx
    have hx := g1.2.2.1
    refine ⟨by omega, by omega, by omega, fun x hx => ?_⟩
    obtain ⟨j, hj, rfl⟩ := mem_getD default hx
    have := g6 j (by omega)
    have h7 := this.1
    have h8 := this.2
    omega
  · have e : (gpI n xs k f t pl a b want).1 = ⟨f, t, pl⟩ := by
      unfold gpI at hh ⊢
      split
      · rename_i h9; rw [if_pos h9] at hh; exact absurd h9.2 hh
      · rfl
    rw [e]
    have h1 := h.1
    simp only at h1
    exact ⟨by dsimp only; omega, by dsimp only; omega, by dsimp only; omega, h.bf (by decide)⟩
end
end Go.Proofs.Ytpojkjabngkfgaa
