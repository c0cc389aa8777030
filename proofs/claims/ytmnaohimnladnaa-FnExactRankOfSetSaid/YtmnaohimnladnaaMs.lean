/- Plain mathematics of the game's states. No program in sight. -/
import Derived.Test.YtmnaohimnladnaaMk
namespace Go.Proofs.Ytmnaohimnladnaa

def plOk (xs : List (Int × Int)) (t pl : List Int) (i : Nat) : Prop := 0 ≤ pl.getD i default ∧ pl.getD i default < xs.length ∧ (0 < i → pl.getD (i - 1) default < pl.getD i default) ∧ (t.getD i default = (brP xs pl i).1 ∨ t.getD i default = (brP xs pl i).2)
def fOk (f t : List Int) (k : Int) (v : Nat) : Prop := 0 ≤ f.getD v default ∧ f.getD v default + (t.count (v : Int) : Int) = k
def isP (n : Int) (xs : List (Int × Int)) (k : Int) (f t pl : List Int) : Prop := isG n xs ∧ (1 ≤ k ∧ k ≤ 3) ∧ (f.length : Int) = n ∧ t.length = pl.length ∧ (∀ i, i < pl.length → plOk xs t pl i) ∧ ∀ v, v < n.toNat → fOk f t k v
instance (n : Int) (xs : List (Int × Int)) (k : Int) (f t pl : List Int) : Decidable (isP n xs k f t pl) := by unfold isP plOk fOk; infer_instance
theorem gGood {n : Int} {xs : List (Int × Int)} (h : isG n xs) : GoodL n.toNat xs := by
  intro x hx
  obtain ⟨j, hj, rfl⟩ := mem_getD default hx
  have := gBar h j hj
  have := h.1
  omega
theorem isP_ok {n : Int} {xs : List (Int × Int)} {k : Int} {f t pl : List Int} (h : isP n xs k f t pl) : okP n.toNat k xs ⟨f, t, pl⟩ := by
  obtain ⟨hg, hk, hf, ht, hp, hv⟩ := h
  have hn := hg.1
  refine ⟨by show f.length = n.toNat; omega, ⟨ht, fun j hj => ?_⟩, fun v h0 hv' => ?_, fun v h0 hv' => ?_, fun j hj => ?_⟩
  · obtain ⟨p1, p2, p3, p4⟩ := hp j hj
    have hb := gBar hg (pl.getD j default).toNat (by omega)
    show 0 ≤ (xs.getD (pl.getD j default).toNat default).1 ∧ (xs.getD (pl.getD j default).toNat default).1 < (xs.getD (pl.getD j default).toNat default).2 ∧ (xs.getD (pl.getD j default).toNat default).2 < (n.toNat : Int) ∧ _
    exact ⟨hb.1, hb.2.1, by omega, p4⟩
  · have := (hv v.toNat (by omega)).1
    exact this
  · have := (hv v.toNat (by omega)).2
    rw [show ((v.toNat : Nat) : Int) = v by omega] at this
    exact this
  · obtain ⟨p1, p2, p3, p4⟩ := hp j hj
    exact ⟨p1, p2, p3⟩
theorem ok_isP {n : Int} {xs : List (Int × Int)} {k : Int} {p : PS} (hg : isG n xs) (hk : 1 ≤ k ∧ k ≤ 3) (h : okP n.toNat k xs p) : isP n xs k p.f p.t p.pl := by
  have hn := hg.1
  refine ⟨hg, hk, by rw [h.fl]; omega, h.pv.tl, fun i hi => ?_, fun v hv => ?_⟩
  · obtain ⟨a1, a2, a3⟩ := h.asc i hi
    exact ⟨a1, a2, a3, (h.pv.ok i hi).2.2.2⟩
  · have a1 := h.pos (v : Int) (by omega) (by omega)
    have a2 := h.sum (v : Int) (by omega) (by omega)
    unfold gI at a1 a2
    rw [Int.toNat_natCast] at a1 a2
    exact ⟨a1, a2⟩

theorem szf_nn {b : Int} {n : Nat} (h : ¬ szf b n < 0) : szf b n = b - n ∧ (n : Int) ≤ b := by
  unfold szf at h ⊢
  split at h
  · omega
  · rename_i h2; rw [if_neg h2]; omega

/-! ### How often each point is a tail -/
def usedL (n : Nat) (t : List Int) (k : Nat) : List Int := (List.range n).map fun v : Nat => ((t.take k).count (v : Int) : Int)
theorem usedL_zero (n : Nat) (t : List Int) : usedL n t 0 = List.replicate n 0 := by
  unfold usedL
  apply List.ext_getElem
  · simp
  · intro i h1 h2; simp
theorem usedL_len (n : Nat) (t : List Int) (k : Nat) : (usedL n t k).length = n := by simp [usedL]
theorem usedL_get (n : Nat) (t : List Int) (k v : Nat) (h : v < n) : (usedL n t k).getD v default = ((t.take k).count (v : Int) : Int) := by simp [usedL, h]
theorem usedL_step (n : Nat) (t : List Int) (k : Nat) (h : k < t.length) (h0 : 0 ≤ t.getD k default) (h1 : t.getD k default < n) : (usedL n t k).set (t.getD k default).toNat ((usedL n t k).getD (t.getD k default).toNat default + 1) = usedL n t (k + 1) := by
  rw [usedL_get n t k (t.getD k default).toNat (by omega)]
  apply List.ext_getElem
  · simp [usedL]
  · intro i h2 h3
    have hi : i < n := by simpa [usedL] using h3
    have e : (usedL n t (k + 1))[i] = ((t.take k).count (i : Int) : Int) + (if t.getD k default = (i : Int) then 1 else 0) := by
      simp only [usedL, List.getElem_map, List.getElem_range]
      rw [take_succ_getD t default k h, List.count_append]
      by_cases hh : t.getD k default = (i : Int)
      · rw [if_pos hh, hh]; simp
      · rw [if_neg hh]
        have : List.count (i : Int) [t.getD k default] = 0 := by simp only [List.count_singleton]; simpa using hh
        rw [this]; omega
    rw [e]
    by_cases hh : t.getD k default = (i : Int)
    · have hti : (t.getD k default).toNat = i := by omega
      rw [List.getElem_set, if_pos hti, if_pos hh, hh]
      simp
    · have hti : ¬ (t.getD k default).toNat = i := by omega
      rw [List.getElem_set, if_neg hti, if_neg hh]
      simp [usedL]

theorem cnt_take_yes (t : List Int) (k : Nat) (x : Int) (h : k < t.length) (hx : t.getD k default = x) : (t.take (k + 1)).count x = (t.take k).count x + 1 := by
  rw [take_succ_getD t default k h, List.count_append, hx]; simp
theorem cnt_take_no (t : List Int) (k : Nat) (x : Int) (h : k < t.length) (hx : ¬ t.getD k default = x) : (t.take (k + 1)).count x = (t.take k).count x := by
  rw [take_succ_getD t default k h, List.count_append]
  have : List.count x [t.getD k default] = 0 := by simp only [List.count_singleton]; simpa using hx
  rw [this]; rfl

theorem plOk_len {xs : List (Int × Int)} {t pl : List Int} (h : ∀ i, i < pl.length → plOk xs t pl i) : pl.length ≤ xs.length := by
  have key : ∀ i, i < pl.length → (i : Int) ≤ pl.getD i default := by
    intro i
    induction i with
    | zero => intro hi; have := (h 0 hi).1; omega
    | succ i ih =>
      intro hi
      have h1 := ih (by omega)
      have h2 := (h (i + 1) hi).2.2.1 (by omega)
      rw [Nat.add_sub_cancel] at h2
      omega
  rcases Nat.eq_zero_or_pos pl.length with h0 | h0
  · omega
  · have h1 := key (pl.length - 1) (by omega)
    have h2 := (h (pl.length - 1) (by omega)).2.1
    omega
theorem wrap_small {a b k : Int} (ha : 0 ≤ a) (ha2 : a ≤ 9223372036854775807) (hb : 0 ≤ b ∧ b ≤ 1000) (hk : 1 ≤ k ∧ k ≤ 3) : Go.IntKind.i64.wrap (a + b) = k ↔ a + b = k := by
  rcases Int.lt_or_le 9223372036854775807 (a + b) with h | h
  · have e : Go.IntKind.i64.wrap (a + b) = a + b - 18446744073709551616 := by
      have := Go.IntWalk.i64_in (a + b - 18446744073709551616) ⟨by omega, by omega⟩
      rw [← this]
      simp only [Go.IntKind.wrap, Go.IntKind.signed, Go.IntKind.bits]
      have h2 := Int.add_mul_bmod_self_right (a + b - 18446744073709551616) 1 (2 ^ 64)
      simp at h2 ⊢
      try omega
    rw [e]; omega
  · rw [Go.IntWalk.i64_in _ ⟨by omega, h⟩]

/-! ### Free pebbles counted -/
def fpS (f : List Int) (k : Nat) : Int := ((f.take k).map fun x => max 0 (min 3 x)).sum
def fpI (f : List Int) : Int := if f.length ≤ 8 then fpS f f.length else 0
theorem fpS_zero (f : List Int) : fpS f 0 = 0 := by simp [fpS]
theorem fpS_succ (f : List Int) (k : Nat) (h : k < f.length) : fpS f (k + 1) = fpS f k + max 0 (min 3 (f.getD k default)) := by
  unfold fpS
  rw [take_succ_getD f default k h, List.map_append, List.sum_append]; simp
theorem fpS_rng (f : List Int) : ∀ k, k ≤ f.length → 0 ≤ fpS f k ∧ fpS f k ≤ 3 * k
  | 0, _ => by rw [fpS_zero]; omega
  | k + 1, h => by
    have ih := fpS_rng f k (by omega)
    rw [fpS_succ f k (by omega)]
    omega
theorem ovL_len (n k l : Int) (xs : List (Int × Int)) : (ovL n k l xs).length ≤ 8 := by
  unfold ovL
  cases h : ovI n k l xs with
  | none => simp
  | some mask =>
    unfold ovI at h
    split at h
    · rename_i hh
      have h1 := hh.1.2.1
      have h2 := sz_le n.toNat (maskV mask)
      show (setL n.toNat mask).length ≤ 8
      rw [setL_len]; omega
    · cases h
theorem newP_len (n k : Int) (xs : List (Int × Int)) : (if isG n xs ∧ 1 ≤ k ∧ k ≤ 3 then List.replicate n.toNat k else []).length ≤ 8 := by
  split
  · rename_i h
    have := h.1.2.1
    rw [List.length_replicate]; omega
  · simp
end Go.Proofs.Ytmnaohimnladnaa
