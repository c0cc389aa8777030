/- Bars in their order: a bar put in its place is what sorting leaves. No program in sight. -/
import Derived.Test.YtmkalfofmodbdaaMx
namespace Go.Proofs.Ytmkalfofmodbdaa

theorem leB_trans {a b c : Int × Int} (h1 : leB a b) (h2 : leB b c) : leB a c := by
  unfold leB at *; omega
theorem leB_total (a b : Int × Int) : leB a b ∨ leB b a := by
  unfold leB; omega
theorem leB_antisymm {a b : Int × Int} (h1 : leB a b) (h2 : leB b a) : a = b := by
  unfold leB at *
  exact Prod.ext (by omega) (by omega)
theorem cmpB_ge (a b : Int × Int) : 0 ≤ cmpB b a ↔ leB a b := by
  unfold cmpB cmpI leB
  repeat' split
  all_goals omega
theorem adj_pairwise {xs : List (Int × Int)} (h : ∀ i, i < xs.length → 0 < i → leB (xs.getD (i - 1) default) (xs.getD i default)) : xs.Pairwise leB := by
  have key : ∀ j i, i < j → j < xs.length → leB (xs.getD i default) (xs.getD j default) := by
    intro j
    induction j with
    | zero => intro i h1; omega
    | succ j ih =>
      intro i h1 h2
      have h3 := h (j + 1) h2 (by omega)
      rw [Nat.add_sub_cancel] at h3
      rcases Nat.lt_or_ge i j with h4 | h4
      · exact leB_trans (ih i h4 (by omega)) h3
      · rw [show i = j by omega]; exact h3
  refine List.pairwise_iff_getElem.2 fun i j hi hj hij => ?_
  have := key j i hij hj
  simpa [List.getD_eq_getElem?_getD, List.getElem?_eq_getElem hi, List.getElem?_eq_getElem hj] using this
theorem isG_pairwise {n : Int} {xs : List (Int × Int)} (h : isG n xs) : xs.Pairwise leB :=
  adj_pairwise fun i hi h0 => (h.2.2.2 i hi).2.2.2 h0
theorem putL_pairwise (x : Int × Int) : ∀ xs : List (Int × Int), xs.Pairwise leB → (putL xs x).Pairwise leB
  | [], _ => List.pairwise_singleton _ _
  | y :: ys, h => by
    obtain ⟨h1, h2⟩ := List.pairwise_cons.1 h
    rw [putL]
    split
    · rename_i hyx
      refine List.pairwise_cons.2 ⟨fun z hz => ?_, putL_pairwise x ys h2⟩
      rcases List.mem_append.1 ((putL_perm x ys).subset hz) with hz | hz
      · exact h1 z hz
      · rw [List.mem_singleton] at hz; subst hz; exact hyx
    · rename_i hyx
      have hxy := (leB_total x y).resolve_right hyx
      refine List.pairwise_cons.2 ⟨fun z hz => ?_, h⟩
      rcases List.mem_cons.1 hz with rfl | hz
      · exact hxy
      · exact leB_trans hxy (h1 z hz)
theorem sorted_eq {xs ys : List (Int × Int)} (hp : xs.Perm ys) (hx : xs.Pairwise leB) (hy : ys.Pairwise leB) : xs = ys :=
  List.Perm.eq_of_pairwise (le := leB) (fun _ _ _ _ h1 h2 => leB_antisymm h1 h2) hx hy hp
/-- A sorted list with one of its bars taken out and put in again. -/
theorem putL_back {xs : List (Int × Int)} (h : xs.Pairwise leB) {k : Nat} (hk : k < xs.length) : putL (xs.take k ++ xs.drop (k + 1)) (xs.getD k default) = xs := by
  have hsub : (xs.take k ++ xs.drop (k + 1)).Sublist xs := by
    rw [← List.eraseIdx_eq_take_drop_succ]; exact List.eraseIdx_sublist _ _
  refine sorted_eq ?_ (putL_pairwise _ _ (h.sublist hsub)) h
  refine (putL_perm _ _).trans ?_
  have e : xs = xs.take k ++ xs.getD k default :: xs.drop (k + 1) := by
    rw [show xs.getD k default :: xs.drop (k + 1) = xs.drop k by rw [List.drop_eq_getElem_cons hk, List.getD_eq_getElem?_getD, List.getElem?_eq_getElem hk]; rfl, List.take_append_drop]
  conv => rhs; rw [e]
  rw [List.append_assoc]
  exact List.Perm.append_left _ (List.perm_append_singleton _ _)
/-- What a sort that asks 'cmp(b, a) < 0' makes of a list. -/
def ltB (x y : Int × Int) : Bool := decide (cmpB x y < 0)
def sortB (xs : List (Int × Int)) : List (Int × Int) := xs.mergeSort fun x y => !ltB y x
theorem sortB_pairwise (xs : List (Int × Int)) : (sortB xs).Pairwise leB := by
  have h : ∀ a b : Int × Int, (!ltB b a) = true ↔ leB a b := by
    intro a b
    rw [← cmpB_ge]
    unfold ltB
    by_cases h : cmpB b a < 0
    · simp [h]
    · simp [h]; omega
  have := List.pairwise_mergeSort (le := fun x y : Int × Int => !ltB y x) (fun a b c h1 h2 => (h _ _).2 (leB_trans ((h _ _).1 h1) ((h _ _).1 h2)))
    (fun a b => by
      rcases leB_total a b with h1 | h1
      · rw [(h a b).2 h1]; simp
      · rw [(h b a).2 h1]; simp) xs
  exact this.imp fun {a b} hab => (h a b).1 hab
theorem sortB_perm (xs : List (Int × Int)) : (sortB xs).Perm xs := List.mergeSort_perm _ _
theorem sortB_len (xs : List (Int × Int)) : (sortB xs).length = xs.length := (sortB_perm xs).length_eq
theorem sortB_put {xs : List (Int × Int)} (x : Int × Int) (h : xs.Pairwise leB) : sortB (xs ++ [x]) = putL xs x :=
  sorted_eq ((sortB_perm _).trans (putL_perm x xs).symm) (sortB_pairwise _) (putL_pairwise x xs h)
/-! ### A bar added -/
def adOk (n : Int) (xs : List (Int × Int)) (a b : Int) : Prop := isG n xs ∧ (0 ≤ a ∧ a < n) ∧ (0 ≤ b ∧ b < n) ∧ a ≠ b ∧ xs.length < 24
instance (n : Int) (xs : List (Int × Int)) (a b : Int) : Decidable (adOk n xs a b) := by unfold adOk; infer_instance
def adL (n : Int) (xs : List (Int × Int)) (a b : Int) : List (Int × Int) := if adOk n xs a b then putL xs (min a b, max a b) else xs
theorem adL_24 {n : Int} {xs : List (Int × Int)} (a b : Int) (h : xs.length ≤ 24) : (adL n xs a b).length ≤ 24 := by
  unfold adL
  split
  · rename_i hh; rw [putL_len]; have := hh.2.2.2.2; omega
  · exact h
theorem adL_or (n : Int) (xs : List (Int × Int)) (a b : Int) : (adL n xs a b).length = xs.length ∨ (adL n xs a b).length ≤ 24 := by
  unfold adL
  split
  · rename_i hh; rw [putL_len]; have := hh.2.2.2.2; omega
  · exact .inl rfl
/-- Bars with small numbers. -/
def bOk (xs : List (Int × Int)) : Prop := ∀ x ∈ xs, (0 ≤ x.1 ∧ x.1 ≤ 100) ∧ 0 ≤ x.2 ∧ x.2 ≤ 100
theorem bOk_nil : bOk [] := fun x hx => by simp at hx
theorem bOk_snoc {xs : List (Int × Int)} (h : bOk xs) {a b : Int} (ha : 0 ≤ a ∧ a ≤ 100) (hb : 0 ≤ b ∧ b ≤ 100) : bOk (xs ++ [(a, b)]) := by
  intro x hx
  rcases List.mem_append.1 hx with hx | hx
  · exact h x hx
  · rw [List.mem_singleton] at hx; subst hx; exact ⟨ha, hb⟩
theorem bOk_ad {n : Int} {xs : List (Int × Int)} (h : bOk xs) {a b : Int} (ha : 0 ≤ a ∧ a ≤ 100) (hb : 0 ≤ b ∧ b ≤ 100) : bOk (adL n xs a b) := by
  unfold adL
  split
  · intro x hx
    exact bOk_snoc h (a := min a b) (b := max a b) (by omega) (by omega) x ((putL_perm _ _).subset hx)
  · exact h
theorem adL_len (n : Int) (xs : List (Int × Int)) (a b : Int) : (adL n xs a b).length ≤ xs.length + 1 := by
  unfold adL
  split
  · rw [putL_len]; omega
  · omega
end Go.Proofs.Ytmkalfofmodbdaa
