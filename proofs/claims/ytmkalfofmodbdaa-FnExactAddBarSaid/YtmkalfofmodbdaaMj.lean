/- Plain mathematics of counts and of texts of graphs. No program in sight. -/
import Derived.Test.YtmkalfofmodbdaaMi
import Derived.Test.YtmkalfofmodbdaaMf
namespace Go.Proofs.Ytmkalfofmodbdaa

theorem mul_rng {k n : Int} (h1 : 1 ≤ k ∧ k ≤ 3) (h2 : 0 ≤ n ∧ n ≤ 100) : 0 ≤ k * n ∧ k * n ≤ 300 := by
  obtain ⟨a, b⟩ := h1
  have : k = 1 ∨ k = 2 ∨ k = 3 := by omega
  rcases this with rfl | rfl | rfl <;> omega
def cfI (n k l : Int) (xs : List (Int × Int)) : Int := if isG n xs ∧ (1 ≤ k ∧ k ≤ 3 ∧ 0 ≤ l ∧ l < 2 * k) then max 0 (k * n - l - xs.length) else -1

/-! ### Texts of graphs -/
def fmtB (x : Int × Int) : List UInt8 := [32] ++ fmtInt x.1 ++ [45] ++ fmtInt x.2
def fmtK (n : Int) (xs : List (Int × Int)) (k : Nat) : List UInt8 := fmtInt n ++ [58] ++ (xs.take k).flatMap fmtB
def fmtG (n : Int) (xs : List (Int × Int)) : List UInt8 := if isG n xs then fmtK n xs xs.length else []
theorem fmtK_zero (n : Int) (xs : List (Int × Int)) : fmtK n xs 0 = fmtInt n ++ [58] := by simp [fmtK]
theorem fmtK_succ (n : Int) (xs : List (Int × Int)) (k : Nat) (h : k < xs.length) : fmtK n xs (k + 1) = fmtK n xs k ++ [32] ++ fmtInt (xs.getD k default).1 ++ [45] ++ fmtInt (xs.getD k default).2 := by
  unfold fmtK
  rw [take_succ_getD xs default k h, List.flatMap_append]
  simp [fmtB]
theorem fmtK_len (n : Int) (xs : List (Int × Int)) (hn : -9223372036854775808 ≤ n ∧ n ≤ 9223372036854775807) (hx : ∀ j, j < xs.length → (-9223372036854775808 ≤ (xs.getD j default).1 ∧ (xs.getD j default).1 ≤ 9223372036854775807) ∧ (-9223372036854775808 ≤ (xs.getD j default).2 ∧ (xs.getD j default).2 ≤ 9223372036854775807)) : ∀ k, k ≤ xs.length → (fmtK n xs k).length ≤ 21 + 42 * k
  | 0, _ => by
    have := fmtInt_len n hn
    rw [fmtK_zero, List.length_append, List.length_singleton]; omega
  | k + 1, h => by
    have ih := fmtK_len n xs hn hx k (by omega)
    have h1 := fmtInt_len _ (hx k (by omega)).1
    have h2 := fmtInt_len _ (hx k (by omega)).2
    rw [fmtK_succ n xs k (by omega)]
    simp only [List.length_append, List.length_singleton]
    omega
theorem fmtK_len' {n : Int} {xs : List (Int × Int)} (h : isG n xs) (k : Nat) (hk : k ≤ xs.length) : (fmtK n xs k).length ≤ 21 + 42 * k := by
  have := h.2.1
  have := h.1
  refine fmtK_len n xs (by omega) (fun j hj => ?_) k hk
  have := gBar h j hj
  omega
end Go.Proofs.Ytmkalfofmodbdaa
