/- What the statement on graphs asks. No program in sight. -/
import Derived.Test.YtlcijjkbgcllfaaMy
import Derived.Test.YtlcijjkbgcllfaaMv
namespace Go.Proofs.Ytlcijjkbgcllfaa

theorem fB_comm (a b : Int) : fB a b = fB b a := by
  funext x
  unfold fB
  rw [decide_eq_decide]
  constructor
  · rintro (h | h)
    · exact .inr h
    · exact .inl h
  · rintro (h | h)
    · exact .inr h
    · exact .inl h
theorem fB_mm (a b : Int) : fB a b (min a b, max a b) = true := by
  unfold fB
  refine decide_eq_true ?_
  rcases Int.le_total a b with h | h
  · rw [Int.min_eq_left h, Int.max_eq_right h]; exact .inl ⟨rfl, rfl⟩
  · rw [Int.min_eq_right h, Int.max_eq_left h]; exact .inr ⟨rfl, rfl⟩
theorem count_ad {n : Int} {xs : List (Int × Int)} {a b : Int} (h : adOk n xs a b) : ((adL n xs a b).countP (fB a b) : Int) = (xs.countP (fB b a) : Int) + 1 := by
  unfold adL
  rw [if_pos h, (putL_perm _ xs).countP_eq, List.countP_append, fB_comm b a]
  simp [fB_mm]
theorem isG_ad {n : Int} {xs : List (Int × Int)} {a b : Int} (h : adOk n xs a b) : isG n (adL n xs a b) := by
  obtain ⟨h1, h2, h3, h4, h5⟩ := h
  unfold adL
  rw [if_pos ⟨h1, h2, h3, h4, h5⟩]
  exact isG_put h1 h5 (by dsimp only; omega)
theorem back_ad {n : Int} {xs : List (Int × Int)} {i : Int} (h : isG n xs ∧ 0 ≤ i ∧ i < xs.length) :
    adOk n (rmB n xs i) (xs.getD i.toNat default).1 (xs.getD i.toNat default).2 ∧ adL n (rmB n xs i) (xs.getD i.toNat default).1 (xs.getD i.toNat default).2 = xs := by
  obtain ⟨hg, h0, h1⟩ := h
  have hb := gBar hg i.toNat (by omega)
  have hr : rmB n xs i = xs.take i.toNat ++ xs.drop (i.toNat + 1) := by unfold rmB; rw [if_pos ⟨hg, h0, h1⟩]
  have hl := hg.2.2.1
  have hlen : (rmB n xs i).length = xs.length - 1 := by rw [hr, List.length_append, List.length_take, List.length_drop]; omega
  have hok : adOk n (rmB n xs i) (xs.getD i.toNat default).1 (xs.getD i.toNat default).2 := ⟨isG_rm hg i, by omega, by omega, by omega, by omega⟩
  refine ⟨hok, ?_⟩
  unfold adL
  rw [if_pos hok, Int.min_eq_left (by omega), Int.max_eq_right (by omega), hr]
  exact putL_back (isG_pairwise hg) (by omega)
theorem fmtG_ne {n : Int} {xs : List (Int × Int)} (h : isG n xs) : fmtG n xs ≠ [] := by
  unfold fmtG fmtK
  rw [if_pos h]
  simp
theorem pg_yes {n : Int} {xs : List (Int × Int)} (h : isG n xs) : parseG (fmtG n xs) = some (n, xs) := (parseG_some rfl (fmtG_ne h)).1
theorem pg_no {n : Int} {xs : List (Int × Int)} (h : ¬ isG n xs) : parseG (fmtG n xs) = none := by
  have e : fmtG n xs = [] := by unfold fmtG; rw [if_neg h]
  rw [e]
  exact parseG_none fun m ys hg => fmtG_ne hg
theorem pg_some (n : Int) (xs : List (Int × Int)) : (parseG (fmtG n xs)).isSome = decide (isG n xs) := by
  by_cases h : isG n xs
  · rw [pg_yes h, decide_eq_true h]; rfl
  · rw [pg_no h, decide_eq_false h]; rfl
theorem pg_back {n : Int} {xs : List (Int × Int)} (h : (parseG (fmtG n xs)).isSome = true) : gN (fmtG n xs) = n ∧ gX (fmtG n xs) = xs := by
  rw [pg_some] at h
  have hg := of_decide_eq_true h
  unfold gN gX
  rw [pg_yes hg]
  exact ⟨rfl, rfl⟩
theorem fmtG_len (n : Int) (xs : List (Int × Int)) : (fmtG n xs).length ≤ 2000 := by
  unfold fmtG
  split
  · rename_i h
    have h1 := fmtK_len' h xs.length (Nat.le_refl _)
    have h2 := h.2.2.1
    omega
  · simp
end Go.Proofs.Ytlcijjkbgcllfaa
