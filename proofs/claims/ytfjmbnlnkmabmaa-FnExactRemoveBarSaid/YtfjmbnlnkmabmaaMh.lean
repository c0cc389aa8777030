/- Plain mathematics of graphs: no program in sight. -/
import Derived.Test.YtfjmbnlnkmabmaaMe
import Derived.Test.YtfjmbnlnkmabmaaMg
import Derived.Test.YtfjmbnlnkmabmaaSk
namespace Go.Proofs.Ytfjmbnlnkmabmaa

/-! ### Counting -/
def cntP {α : Type} (f : α → Bool) (xs : List α) (k : Nat) : Nat := (xs.take k).countP f
theorem cntP_zero {α : Type} (f : α → Bool) (xs : List α) : cntP f xs 0 = 0 := by simp [cntP]
theorem cntP_yes {α : Type} (d : α) (f : α → Bool) (xs : List α) (k : Nat) (h : k < xs.length) (hf : f (xs.getD k d) = true) : cntP f xs (k + 1) = cntP f xs k + 1 := by
  unfold cntP
  rw [take_succ_getD xs d k h, List.countP_append, List.countP_singleton, if_pos hf]
theorem cntP_no {α : Type} (d : α) (f : α → Bool) (xs : List α) (k : Nat) (h : k < xs.length) (hf : ¬ f (xs.getD k d) = true) : cntP f xs (k + 1) = cntP f xs k := by
  unfold cntP
  rw [take_succ_getD xs d k h, List.countP_append, List.countP_singleton, if_neg hf, Nat.add_zero]
theorem cntP_le {α : Type} (f : α → Bool) (xs : List α) (k : Nat) : cntP f xs k ≤ k := by
  unfold cntP
  exact Nat.le_trans List.countP_le_length (List.length_take_le _ _)
theorem cntP_all {α : Type} (f : α → Bool) (xs : List α) (k : Nat) (h : xs.length ≤ k) : cntP f xs k = xs.countP f := by
  unfold cntP; rw [List.take_of_length_le h]
def fB (a b : Int) (x : Int × Int) : Bool := decide ((x.1 = a ∧ x.2 = b) ∨ (x.1 = b ∧ x.2 = a))
def fD (p : Int) (x : Int × Int) : Bool := decide (x.1 = p ∨ x.2 = p)

/-! ### What a graph is -/
def leB (x y : Int × Int) : Prop := x.1 < y.1 ∨ (x.1 = y.1 ∧ x.2 ≤ y.2)
instance (x y : Int × Int) : Decidable (leB x y) := by unfold leB; infer_instance
def gOk (n : Int) (xs : List (Int × Int)) (j : Nat) : Prop := 0 ≤ (xs.getD j default).1 ∧ (xs.getD j default).1 < (xs.getD j default).2 ∧ (xs.getD j default).2 < n ∧ (0 < j → leB (xs.getD (j - 1) default) (xs.getD j default))
def isG (n : Int) (xs : List (Int × Int)) : Prop := 1 ≤ n ∧ n ≤ 8 ∧ xs.length ≤ 24 ∧ ∀ j, j < xs.length → gOk n xs j
instance (n : Int) (xs : List (Int × Int)) : Decidable (isG n xs) := by unfold isG gOk; infer_instance
/-- -1, 0 or 1. -/
def cmpI (a b : Int) : Int := if a < b then -1 else if b < a then 1 else 0
def cmpB (x y : Int × Int) : Int := if cmpI x.1 y.1 ≠ 0 then cmpI x.1 y.1 else cmpI x.2 y.2
theorem cmpB_le (x y : Int × Int) : cmpB x y ≤ 0 ↔ leB x y := by
  unfold cmpB cmpI leB
  by_cases h1 : x.1 < y.1
  · simp [h1]
  · by_cases h2 : y.1 < x.1
    · simp [h1, h2]; omega
    · have h3 : x.1 = y.1 := by omega
      by_cases h4 : x.2 < y.2
      · simp [h3, h4]; omega
      · by_cases h5 : y.2 < x.2
        · simp [h3, h4, h5]
        · simp [h3, h4, h5]; omega
theorem cmpI_range (a b : Int) : -1 ≤ cmpI a b ∧ cmpI a b ≤ 1 := by unfold cmpI; split <;> (try split) <;> omega

/-! ### The complete graph -/
def cgRow (_n i : Nat) (m : Nat) : List (Int × Int) := (List.range m).map fun t => ((i : Int), ((i + 1 + t : Nat) : Int))
def cgP (n i : Nat) : List (Int × Int) := (List.range i).flatMap fun r => cgRow n r (n - (r + 1))
theorem cgP_succ (n i : Nat) : cgP n (i + 1) = cgP n i ++ cgRow n i (n - (i + 1)) := by
  unfold cgP; rw [List.range_succ, List.flatMap_append]; simp
theorem cgRow_succ (n i m : Nat) : cgRow n i (m + 1) = cgRow n i m ++ [((i : Int), ((i + 1 + m : Nat) : Int))] := by
  unfold cgRow; rw [List.range_succ, List.map_append]; rfl
theorem cgRow_len (n i m : Nat) : (cgRow n i m).length = m := by simp [cgRow]
theorem cgP_len (n i : Nat) (h : n ≤ 8) : (cgP n i).length ≤ 8 * i := by
  induction i with
  | zero => simp [cgP]
  | succ i ih => rw [cgP_succ, List.length_append, cgRow_len]; omega

theorem cgP_len2 (n : Int) : (if 1 ≤ n ∧ n ≤ 7 then cgP n.toNat n.toNat else []).length ≤ 64 := by
  split
  · have := cgP_len n.toNat n.toNat (by omega)
    omega
  · simp

/-! ### One bar taken out -/
def rmB (n : Int) (xs : List (Int × Int)) (i : Int) : List (Int × Int) := if isG n xs ∧ 0 ≤ i ∧ i < xs.length then xs.take i.toNat ++ xs.drop (i.toNat + 1) else xs

theorem rmB_len (n : Int) (xs : List (Int × Int)) (i : Int) {m : Nat} (h : xs.length ≤ m) : (rmB n xs i).length ≤ m := by
  unfold rmB
  split
  · rw [List.length_append, List.length_take, List.length_drop]; omega
  · exact h

/-! ### Only some bars -/
def onlyP (f : Int → Bool) (xs : List (Int × Int)) (k : Nat) : List (Int × Int) := (List.range k).flatMap fun (j : Nat) => if f (j : Int) then [xs.getD j default] else []
theorem onlyP_yes (f : Int → Bool) (xs : List (Int × Int)) (k : Nat) (h : f (k : Int) = true) : onlyP f xs (k + 1) = onlyP f xs k ++ [xs.getD k default] := by
  unfold onlyP; rw [List.range_succ, List.flatMap_append]; simp [h]
theorem onlyP_no (f : Int → Bool) (xs : List (Int × Int)) (k : Nat) (h : ¬ f (k : Int) = true) : onlyP f xs (k + 1) = onlyP f xs k := by
  unfold onlyP; rw [List.range_succ, List.flatMap_append]; simp [h]
theorem onlyP_len (f : Int → Bool) (xs : List (Int × Int)) (k : Nat) : (onlyP f xs k).length ≤ k := by
  induction k with
  | zero => simp [onlyP]
  | succ k ih =>
    by_cases h : f (k : Int) = true
    · rw [onlyP_yes f xs k h]; simp; omega
    · rw [onlyP_no f xs k h]; omega
/-- Found among the first k. -/
theorem mem_take_succ {α : Type} (d : α) (xs : List α) (k : Nat) (h : k < xs.length) (x : α) : x ∈ xs.take (k + 1) ↔ x ∈ xs.take k ∨ x = xs.getD k d := by
  rw [take_succ_getD xs d k h, List.mem_append, List.mem_singleton]
end Go.Proofs.Ytfjmbnlnkmabmaa
