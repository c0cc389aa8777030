/- Plain facts on lists that are filled, marked and compared. -/
import Derived.Test.YtmkalfofmodbdaaSn
namespace Go.Proofs.Ytmkalfofmodbdaa

instance (priority := 1100) ElI.set {ls : List (List Value)} {i : Nat} {x : List Value} : ElI (ls.set i x) i x := ⟨fun h => by
  have h' : i < ls.length := by simpa using h
  simp [h']⟩

theorem fill_step {α : Type} (F : α → List Value) (xs : List α) (d y : α) (k : Nat) (h : k < xs.length) (hy : y = xs.getD k d) : ((xs.take k ++ List.replicate (xs.length - k) d).map F).set k (F y) = (xs.take (k + 1) ++ List.replicate (xs.length - (k + 1)) d).map F := by
  subst hy
  rw [← List.map_set]
  congr 1
  have e1 : xs.length - k = (xs.length - (k + 1)) + 1 := by omega
  have e2 : (xs.take k).length = k := List.length_take_of_le (by omega)
  rw [List.set_append_right _ _ (by omega), e2, Nat.sub_self, e1, List.replicate_succ, List.set_cons_zero, List.take_succ_eq_append_getElem h]
  have e3 : xs.getD k d = xs[k] := by simp [h]
  rw [e3, List.append_assoc, List.singleton_append]
theorem fill_end {α : Type} (xs : List α) (d : α) (k : Nat) (h : xs.length ≤ k) : xs.take k ++ List.replicate (xs.length - k) d = xs := by
  rw [List.take_of_length_le h, Nat.sub_eq_zero_of_le h]; simp
theorem ext_getD {α : Type} (d : α) (xs ys : List α) (hl : xs.length = ys.length) (h : ∀ j, j < xs.length → xs.getD j d = ys.getD j d) : xs = ys := by
  apply List.ext_getElem hl
  intro i h1 h2
  have := h i h1
  simpa [h1, h2] using this
/-- n marks from s on. -/
def mk1 (s : Int) (n : Nat) : List Int := (List.range n).map fun i : Nat => s + (i : Int)
def mk2 (s : Int) (n : Nat) : List (Int × Int) := (List.range n).map fun i : Nat => (s + 2 * (i : Int), s + 2 * (i : Int) + 1)
theorem mk1_len (s : Int) (n : Nat) : (mk1 s n).length = n := by simp [mk1]
theorem mk2_len (s : Int) (n : Nat) : (mk2 s n).length = n := by simp [mk2]
theorem mk1_get (s : Int) (n k : Nat) (h : k < n) : (mk1 s n).getD k default = s + k := by simp [mk1, h]
theorem mk2_get (s : Int) (n k : Nat) (h : k < n) : (mk2 s n).getD k default = (s + 2 * k, s + 2 * k + 1) := by simp [mk2, h]
theorem set_mark {α : Type} (f : Nat → α) (xs : List α) (k : Nat) (h : k < xs.length) (y : α) (hy : y = f k) : ((List.range k).map f ++ xs.drop k).set k y = (List.range (k + 1)).map f ++ xs.drop (k + 1) := by
  subst hy
  rw [List.set_append_right _ _ (by simp), List.length_map, List.length_range, Nat.sub_self, List.drop_eq_getElem_cons h, List.set_cons_zero, List.range_succ]
  simp
theorem mk1_step (s : Int) (xs : List Int) (k : Nat) (h : k < xs.length) : ((mk1 s k ++ xs.drop k).map iv).set k (iv (s + k)) = (mk1 s (k + 1) ++ xs.drop (k + 1)).map iv := by
  rw [← List.map_set]; congr 1; exact set_mark _ xs k h _ rfl
theorem mk2_step (s : Int) (xs : List (Int × Int)) (k : Nat) (h : k < xs.length) : ((mk2 s k ++ xs.drop k).map bv).set k (bv (s + 2 * k, s + 2 * k + 1)) = (mk2 s (k + 1) ++ xs.drop (k + 1)).map bv := by
  rw [← List.map_set]; congr 1; exact set_mark _ xs k h _ rfl
/-- The room that is left. -/
def szf (b : Int) (n : Nat) : Int := if b - (n : Int) < 0 then -1 else b - n
end Go.Proofs.Ytmkalfofmodbdaa
