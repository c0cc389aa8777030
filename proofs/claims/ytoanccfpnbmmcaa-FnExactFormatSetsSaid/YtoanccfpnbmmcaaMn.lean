/- Texts glued together; lists of lists written. No program in sight. -/
import Derived.Test.YtoanccfpnbmmcaaMe
namespace Go.Proofs.Ytoanccfpnbmmcaa

/-- The first k texts, with b between them. -/
def glK (b : List UInt8) (ts : List (List UInt8)) : Nat → List UInt8
  | 0 => []
  | k + 1 => (if 0 < k then glK b ts k ++ b else glK b ts k) ++ ts.getD k default
theorem glK_zero (b : List UInt8) (ts : List (List UInt8)) : glK b ts 0 = [] := rfl
theorem glK_succ (b : List UInt8) (ts : List (List UInt8)) (k : Nat) (h : 0 < k) : glK b ts (k + 1) = glK b ts k ++ b ++ ts.getD k default := by
  rw [glK, if_pos h]
theorem glK_one (b : List UInt8) (ts : List (List UInt8)) (k : Nat) (h : ¬ 0 < k) : glK b ts (k + 1) = glK b ts k ++ ts.getD k default := by
  rw [glK, if_neg h]
theorem mapD {α β : Type} [Inhabited α] [Inhabited β] (f : α → β) (l : List α) (k : Nat) (h : k < l.length) : (l.map f).getD k default = f (l.getD k default) := by
  simp [List.getD_eq_getElem?_getD, List.getElem?_eq_getElem h]
def numT (xs : List Int) (k : Nat) : List UInt8 := glK [44] (xs.map fmtInt) k
def rowT (xs : List Int) : List UInt8 := [123] ++ numT xs xs.length ++ [125]
def setT (xss : List (List Int)) (k : Nat) : List UInt8 := glK [32] (xss.map rowT) k
def setsT (xss : List (List Int)) : List UInt8 := if xss.length = 0 then [110, 111, 110, 101] else setT xss xss.length
def tot (xss : List (List Int)) : Nat := (xss.map List.length).sum
theorem tot_succ (xss : List (List Int)) (k : Nat) (h : k < xss.length) : tot (xss.take (k + 1)) = tot (xss.take k) + (xss.getD k default).length := by
  unfold tot
  rw [take_succ_getD xss default k h, List.map_append, List.sum_append]; simp
theorem tot_le (xss : List (List Int)) (k : Nat) : tot (xss.take k) ≤ tot xss := by
  conv => rhs; rw [← List.take_append_drop k xss]
  unfold tot
  rw [List.map_append, List.sum_append]; omega
theorem len_tot (xss : List (List Int)) (k : Nat) (h : k < xss.length) : (xss.getD k default).length ≤ tot xss := by
  have h1 := tot_succ xss k h
  have h2 := tot_le xss (k + 1)
  omega
theorem numT_zero (xs : List Int) : numT xs 0 = [] := rfl
theorem numT_succ (xs : List Int) (k : Nat) (h0 : 0 < k) (h : k < xs.length) : numT xs (k + 1) = numT xs k ++ [44] ++ fmtInt (xs.getD k default) := by
  unfold numT
  rw [glK_succ _ _ _ h0, mapD fmtInt xs k h]
theorem numT_one (xs : List Int) (k : Nat) (h0 : ¬ 0 < k) (h : k < xs.length) : numT xs (k + 1) = numT xs k ++ fmtInt (xs.getD k default) := by
  unfold numT
  rw [glK_one _ _ _ h0, mapD fmtInt xs k h]
theorem numT_len (xs : List Int) (hb : ∀ a ∈ xs, -9223372036854775808 ≤ a ∧ a ≤ 9223372036854775807) : ∀ k, k ≤ xs.length → (numT xs k).length ≤ 21 * k
  | 0, _ => by simp [numT_zero]
  | k + 1, h => by
    have h1 := numT_len xs hb k (by omega)
    have h2 := fmtInt_len (xs.getD k default) (hb _ (by rw [List.getD_eq_getElem?_getD, List.getElem?_eq_getElem (show k < xs.length by omega)]; exact List.getElem_mem _))
    by_cases h0 : 0 < k
    · rw [numT_succ xs k h0 (by omega)]; simp only [List.length_append, List.length_singleton]; omega
    · rw [numT_one xs k h0 (by omega)]; simp only [List.length_append]; omega
theorem setT_zero (xss : List (List Int)) : setT xss 0 = [] := rfl
theorem setT_succ (xss : List (List Int)) (k : Nat) (h0 : 0 < k) (h : k < xss.length) : setT xss (k + 1) = setT xss k ++ [32] ++ rowT (xss.getD k default) := by
  unfold setT
  rw [glK_succ _ _ _ h0, mapD rowT xss k h]
theorem setT_one (xss : List (List Int)) (k : Nat) (h0 : ¬ 0 < k) (h : k < xss.length) : setT xss (k + 1) = setT xss k ++ rowT (xss.getD k default) := by
  unfold setT
  rw [glK_one _ _ _ h0, mapD rowT xss k h]
def In64 (xss : List (List Int)) : Prop := ∀ xs ∈ xss, ∀ a ∈ xs, -9223372036854775808 ≤ a ∧ a ≤ 9223372036854775807
theorem In64.at {xss : List (List Int)} (h : In64 xss) (k : Nat) (hk : k < xss.length) : ∀ a ∈ xss.getD k default, -9223372036854775808 ≤ a ∧ a ≤ 9223372036854775807 :=
  h _ (by rw [List.getD_eq_getElem?_getD, List.getElem?_eq_getElem hk]; exact List.getElem_mem _)
theorem rowT_len {xs : List Int} (hb : ∀ a ∈ xs, -9223372036854775808 ≤ a ∧ a ≤ 9223372036854775807) : (rowT xs).length ≤ 21 * xs.length + 2 := by
  have := numT_len xs hb xs.length (Nat.le_refl _)
  unfold rowT
  simp only [List.length_append, List.length_singleton]; omega
theorem setT_len {xss : List (List Int)} (hb : In64 xss) : ∀ k, k ≤ xss.length → (setT xss k).length ≤ 21 * tot (xss.take k) + 3 * k
  | 0, _ => by simp [setT_zero]
  | k + 1, h => by
    have h1 := setT_len hb k (by omega)
    have h2 := rowT_len (hb.at k (by omega))
    have h3 := tot_succ xss k (by omega)
    by_cases h0 : 0 < k
    · rw [setT_succ xss k h0 (by omega)]; simp only [List.length_append, List.length_singleton]; omega
    · rw [setT_one xss k h0 (by omega)]; simp only [List.length_append]; omega
theorem setT_le {xss : List (List Int)} (hb : In64 xss) (k : Nat) (hk : k ≤ xss.length) : (setT xss k).length ≤ 21 * tot xss + 3 * xss.length := by
  have h1 := setT_len hb k hk
  have h2 := tot_le xss k
  omega
theorem setT_ne (xss : List (List Int)) (k : Nat) (h : 0 < k) (hk : k ≤ xss.length) : setT xss k ≠ [] := by
  obtain ⟨k, rfl⟩ : ∃ j, k = j + 1 := ⟨k - 1, by omega⟩
  intro hh
  have := congrArg List.length hh
  by_cases h0 : 0 < k
  · rw [setT_succ xss k h0 (by omega)] at this; simp at this
  · rw [setT_one xss k h0 (by omega)] at this; simp [rowT] at this
/-- What stands ahead of a row's text. -/
def preT (xss : List (List Int)) (k : Nat) : List UInt8 := if 0 < k then setT xss k ++ [32] else setT xss k
theorem preT_pos (xss : List (List Int)) (k : Nat) (h : 0 < k) : preT xss k = setT xss k ++ [32] := by unfold preT; rw [if_pos h]
theorem preT_zero (xss : List (List Int)) (k : Nat) (h : ¬ 0 < k) : preT xss k = setT xss k := by unfold preT; rw [if_neg h]
theorem preT_len (xss : List (List Int)) (k : Nat) : (preT xss k).length ≤ (setT xss k).length + 1 := by
  unfold preT; split
  · rw [List.length_append, List.length_singleton]; omega
  · omega
theorem preT_row (xss : List (List Int)) (k : Nat) (h : k < xss.length) : preT xss k ++ [123] ++ numT (xss.getD k default) (xss.getD k default).length ++ [125] = setT xss (k + 1) := by
  by_cases h0 : 0 < k
  · rw [preT_pos xss k h0, setT_succ xss k h0 h]; unfold rowT; simp only [List.append_assoc]
  · rw [preT_zero xss k h0, setT_one xss k h0 h]; unfold rowT; simp only [List.append_assoc]
def szss (b : Int) (xss : List (List Int)) : Int := if b - xss.length - tot xss < 0 then -1 else b - xss.length - tot xss
theorem szss_nn {b : Int} {xss : List (List Int)} (h : ¬ szss b xss < 0) : szss b xss = b - xss.length - tot xss ∧ (xss.length : Int) + tot xss ≤ b := by
  unfold szss at h ⊢
  split at h
  · omega
  · rename_i h2; rw [if_neg h2]; omega
end Go.Proofs.Ytoanccfpnbmmcaa
