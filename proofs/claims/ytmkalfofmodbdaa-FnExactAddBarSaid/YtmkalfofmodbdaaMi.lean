/- Plain mathematics of reaching: passes over the bars until nothing is new. No program in sight. -/
import Derived.Test.YtmkalfofmodbdaaMh
namespace Go.Proofs.Ytmkalfofmodbdaa

def stR (s : List Bool) (x : Int × Int) : List Bool := if s.getD x.1.toNat false || s.getD x.2.toNat false then (s.set x.1.toNat true).set x.2.toNat true else s
def passK (xs : List (Int × Int)) (k : Nat) (s : List Bool) : List Bool := (xs.take k).foldl stR s
theorem passK_zero (xs : List (Int × Int)) (s : List Bool) : passK xs 0 s = s := by simp [passK]
theorem passK_succ (xs : List (Int × Int)) (k : Nat) (s : List Bool) (h : k < xs.length) : passK xs (k + 1) s = stR (passK xs k s) (xs.getD k default) := by
  unfold passK; rw [take_succ_getD xs default k h, List.foldl_append]; rfl
def passR (xs : List (Int × Int)) (s : List Bool) : List Bool := xs.foldl stR s
theorem passK_all (xs : List (Int × Int)) (k : Nat) (s : List Bool) (h : xs.length ≤ k) : passK xs k s = passR xs s := by
  unfold passK passR; rw [List.take_of_length_le h]
def iterR (xs : List (Int × Int)) : Nat → List Bool → List Bool
  | 0, s => s
  | m + 1, s => passR xs (iterR xs m s)
theorem stR_len (s : List Bool) (x : Int × Int) : (stR s x).length = s.length := by unfold stR; split <;> simp
theorem fold_len : ∀ (xs : List (Int × Int)) (s : List Bool), (xs.foldl stR s).length = s.length
  | [], _ => rfl
  | x :: xs, s => by rw [List.foldl_cons, fold_len xs, stR_len]
theorem passK_len (xs : List (Int × Int)) (k : Nat) (s : List Bool) : (passK xs k s).length = s.length := fold_len _ s
theorem iterR_len (xs : List (Int × Int)) : ∀ (m : Nat) (s : List Bool), (iterR xs m s).length = s.length
  | 0, _ => rfl
  | m + 1, s => by rw [iterR]; unfold passR; rw [fold_len, iterR_len xs m s]
/-- How many are not reached. -/
def cf (s : List Bool) : Nat := s.countP fun b => !b
theorem cf_cons (b : Bool) (s : List Bool) : cf (b :: s) = cf s + (if b then 0 else 1) := by cases b <;> simp [cf]
theorem cf_le (s : List Bool) : cf s ≤ s.length := List.countP_le_length
theorem set_cf : ∀ (s : List Bool) (i : Nat), cf (s.set i true) ≤ cf s ∧ (cf (s.set i true) = cf s → s.set i true = s) ∧ (i < s.length → s.getD i false = false → cf (s.set i true) < cf s)
  | [], i => by simp
  | b :: s, 0 => by cases b <;> simp [cf_cons]
  | b :: s, i + 1 => by
    have ⟨h1, h2, h3⟩ := set_cf s i
    rw [List.set_cons_succ, cf_cons, cf_cons]
    refine ⟨by omega, fun h => by rw [h2 (by omega)], fun hl hg => ?_⟩
    have := h3 (by simpa using hl) (by simpa using hg)
    omega
theorem stR_cf (s : List Bool) (x : Int × Int) : cf (stR s x) ≤ cf s ∧ (cf (stR s x) = cf s → stR s x = s) := by
  unfold stR
  split
  · have ⟨a1, a2, _⟩ := set_cf s x.1.toNat
    have ⟨b1, b2, _⟩ := set_cf (s.set x.1.toNat true) x.2.toNat
    refine ⟨by omega, fun h => ?_⟩
    rw [b2 (by omega), a2 (by omega)]
  · exact ⟨Nat.le_refl _, fun _ => rfl⟩
theorem fold_cf : ∀ (xs : List (Int × Int)) (s : List Bool), cf (xs.foldl stR s) ≤ cf s ∧ (cf (xs.foldl stR s) = cf s → xs.foldl stR s = s)
  | [], s => ⟨Nat.le_refl _, fun _ => rfl⟩
  | x :: xs, s => by
    have ⟨a1, a2⟩ := fold_cf xs (stR s x)
    have ⟨b1, b2⟩ := stR_cf s x
    rw [List.foldl_cons]
    refine ⟨by omega, fun h => ?_⟩
    rw [a2 (by omega), b2 (by omega)]
theorem set_true_same (s : List Bool) (i : Nat) (h : s.getD i false = true) : s.set i true = s := by
  have hl : i < s.length := by
    rcases Nat.lt_or_ge i s.length with hh | hh
    · exact hh
    · simp [Nat.not_lt.2 hh] at h
  have : s[i] = true := by simpa [hl] using h
  rw [← this, List.set_getElem_self]
theorem stR_same (s : List Bool) (x : Int × Int) (h : s.getD x.1.toNat false = s.getD x.2.toNat false) : stR s x = s := by
  unfold stR
  cases h1 : s.getD x.1.toNat false with
  | false => rw [h1] at h; rw [← h]; rfl
  | true =>
    rw [h1] at h
    have e1 := set_true_same s _ h1
    rw [if_pos (by rw [← h]; rfl), e1, set_true_same s _ h.symm]
theorem stR_diff (s : List Bool) (x : Int × Int) (h1 : x.1.toNat < s.length) (h2 : x.2.toNat < s.length) (h : s.getD x.1.toNat false ≠ s.getD x.2.toNat false) : stR s x = (s.set x.1.toNat true).set x.2.toNat true ∧ cf (stR s x) < cf s := by
  have hor : (s.getD x.1.toNat false || s.getD x.2.toNat false) = true := by
    cases a : s.getD x.1.toNat false <;> cases b : s.getD x.2.toNat false <;> simp_all
  have e : stR s x = (s.set x.1.toNat true).set x.2.toNat true := by unfold stR; rw [if_pos hor]
  refine ⟨e, ?_⟩
  rw [e]
  have ⟨a1, _, a3⟩ := set_cf s x.1.toNat
  have ⟨b1, b2, b3⟩ := set_cf (s.set x.1.toNat true) x.2.toNat
  cases ha : s.getD x.1.toNat false with
  | false => have := a3 h1 ha; omega
  | true =>
    have hb : s.getD x.2.toNat false = false := by cases hb : s.getD x.2.toNat false <;> simp_all
    have hs := set_true_same s _ ha
    have := b3 (by simpa using h2) (by rw [hs]; exact hb)
    omega
theorem stR_yes1 (s : List Bool) (x : Int × Int) (h : s.getD x.1.toNat false = true) : stR s x = (s.set x.1.toNat true).set x.2.toNat true := by unfold stR; rw [if_pos (by rw [h]; rfl)]
theorem stR_yes2 (s : List Bool) (x : Int × Int) (h : s.getD x.2.toNat false = true) : stR s x = (s.set x.1.toNat true).set x.2.toNat true := by unfold stR; rw [if_pos (by rw [h]; simp)]
theorem stR_no (s : List Bool) (x : Int × Int) (h1 : s.getD x.1.toNat false = false) (h2 : s.getD x.2.toNat false = false) : stR s x = s := by unfold stR; rw [h1, h2]; rfl
theorem set2_tv (s : List Bool) (i j : Nat) : ((s.map tv).set i [.bool true]).set j [.bool true] = ((s.set i true).set j true).map tv := by rw [List.map_set, List.map_set]; rfl
theorem iter_or (xs : List (Int × Int)) (s : List Bool) : ∀ m, passR xs (iterR xs m s) = iterR xs m s ∨ cf (iterR xs m s) + m ≤ cf s
  | 0 => .inr (by simp [iterR])
  | m + 1 => by
    have ⟨a1, a2⟩ := fold_cf xs (iterR xs m s)
    rcases iter_or xs s m with h | h
    · left; rw [iterR, h, h]
    · by_cases hc : cf (passR xs (iterR xs m s)) = cf (iterR xs m s)
      · left
        have := a2 hc
        rw [iterR]
        show passR xs (passR xs (iterR xs m s)) = passR xs (iterR xs m s)
        unfold passR at this ⊢
        rw [this, this]
      · right
        rw [iterR]
        have : cf (passR xs (iterR xs m s)) ≤ cf (iterR xs m s) := a1
        omega
theorem iter_fixed (xs : List (Int × Int)) (s : List Bool) (n : Nat) (h : s.length ≤ n) : passR xs (iterR xs n s) = iterR xs n s := by
  rcases iter_or xs s n with hh | hh
  · exact hh
  · have h1 := cf_le s
    have ⟨a1, a2⟩ := fold_cf xs (iterR xs n s)
    exact a2 (by omega)
theorem iter_stay (xs : List (Int × Int)) (s : List Bool) (m : Nat) (h : passR xs (iterR xs m s) = iterR xs m s) : ∀ j, iterR xs (m + j) s = iterR xs m s
  | 0 => rfl
  | j + 1 => by rw [← Nat.add_assoc, iterR, iter_stay xs s m h j, h]
theorem iter_uniq (xs : List (Int × Int)) (s : List Bool) (m n : Nat) (h : passR xs (iterR xs m s) = iterR xs m s) (h' : passR xs (iterR xs n s) = iterR xs n s) : iterR xs m s = iterR xs n s := by
  rw [← iter_stay xs s m h n, Nat.add_comm, iter_stay xs s n h' m]
def s0R (n p : Nat) : List Bool := (List.replicate n false).set p true
theorem s0R_len (n p : Nat) : (s0R n p).length = n := by simp [s0R]
def reachS (n : Nat) (xs : List (Int × Int)) (p : Nat) : List Bool := iterR xs n (s0R n p)
theorem reachS_len (n : Nat) (xs : List (Int × Int)) (p : Nat) : (reachS n xs p).length = n := by unfold reachS; rw [iterR_len, s0R_len]
theorem reach_eq (n : Nat) (xs : List (Int × Int)) (p m : Nat) (h : passR xs (iterR xs m (s0R n p)) = iterR xs m (s0R n p)) : iterR xs m (s0R n p) = reachS n xs p :=
  iter_uniq xs _ m n h (iter_fixed xs _ n (by rw [s0R_len]; exact Nat.le_refl _))
/-- The places of the true ones among the first k. -/
def trueIx (s : List Bool) (k : Nat) : List Int := (List.range k).flatMap fun (j : Nat) => if s.getD j false then [(j : Int)] else []
theorem trueIx_yes (s : List Bool) (k : Nat) (h : s.getD k false = true) : trueIx s (k + 1) = trueIx s k ++ [(k : Int)] := by
  unfold trueIx; rw [List.range_succ, List.flatMap_append]; simp only [List.flatMap_cons, List.flatMap_nil, h, if_true, List.append_nil]
theorem trueIx_no (s : List Bool) (k : Nat) (h : s.getD k false = false) : trueIx s (k + 1) = trueIx s k := by
  unfold trueIx; rw [List.range_succ, List.flatMap_append]; simp only [List.flatMap_cons, List.flatMap_nil, h, Bool.false_eq_true, if_false, List.append_nil]
theorem trueIx_len (s : List Bool) (k : Nat) : (trueIx s k).length ≤ k := by
  induction k with
  | zero => simp [trueIx]
  | succ k ih =>
    cases h : s.getD k false with
    | true => rw [trueIx_yes s k h]; simp; omega
    | false => rw [trueIx_no s k h]; omega
def rchI (n : Int) (xs : List (Int × Int)) (p : Int) : List Int := if isG n xs ∧ 0 ≤ p ∧ p < n then trueIx (reachS n.toNat xs p.toNat) n.toNat else []
theorem rchI_len (n : Int) (xs : List (Int × Int)) (p : Int) : (rchI n xs p).length ≤ 8 := by
  unfold rchI
  split
  · rename_i h
    have := trueIx_len (reachS n.toNat xs p.toNat) n.toNat
    have := h.1.2.1
    omega
  · simp
theorem gBar {n : Int} {xs : List (Int × Int)} (h : isG n xs) (k : Nat) (hk : k < xs.length) : 0 ≤ (xs.getD k default).1 ∧ (xs.getD k default).1 < (xs.getD k default).2 ∧ (xs.getD k default).2 < n :=
  ⟨(h.2.2.2 k hk).1, (h.2.2.2 k hk).2.1, (h.2.2.2 k hk).2.2.1⟩
end Go.Proofs.Ytmkalfofmodbdaa
