/- Plain mathematics of the encodings: no program in sight. -/
import Derived.Test.YtljllahlnbkimaaSh
namespace Go.Proofs.Ytljllahlnbkimaa

def hexDs : List UInt8 := [48, 49, 50, 51, 52, 53, 54, 55, 56, 57, 97, 98, 99, 100, 101, 102]
def hexEnc (l : List UInt8) : List UInt8 := l.flatMap fun b => [hexDs.getD (b.toNat / 16) 0, hexDs.getD (b.toNat % 16) 0]
theorem take_succ_getD {α : Type} (l : List α) (d : α) (k : Nat) (h : k < l.length) : l.take (k + 1) = l.take k ++ [l.getD k d] := by
  rw [List.take_succ_eq_append_getElem h]
  simp [h]
theorem hexEnc_succ (l : List UInt8) (k : Nat) (h : k < l.length) : hexEnc (l.take (k + 1)) = hexEnc (l.take k) ++ [hexDs.getD ((l.getD k 0).toNat / 16) 0, hexDs.getD ((l.getD k 0).toNat % 16) 0] := by
  rw [take_succ_getD l 0 k h]
  simp [hexEnc]
theorem hexEnc_len (l : List UInt8) : (hexEnc l).length = 2 * l.length := by
  induction l with
  | nil => rfl
  | cons b l ih =>
    simp only [hexEnc, List.flatMap_cons, List.length_append, List.length_cons, List.length_nil] at *
    omega

/-- A number's varint. -/
def vi (n : Nat) : List UInt8 := if n < 128 then [UInt8.ofNat n] else UInt8.ofNat (128 + n % 128) :: vi (n / 128)
termination_by n
decreasing_by omega
theorem vi_len : ∀ (k n : Nat), n < 128 ^ (k + 1) → (vi n).length ≤ k + 1
  | 0, n, h => by
    rw [vi, if_pos (by simpa using h)]; simp
  | k + 1, n, h => by
    rw [vi]
    split
    · simp
    · have := vi_len k (n / 128) (by rw [Nat.pow_succ] at h; exact Nat.div_lt_of_lt_mul (by rw [Nat.mul_comm]; exact h))
      simpa using this
theorem vi_len7 (n : Nat) (h : n ≤ 562949953421311) : (vi n).length ≤ 7 := by
  have e : (128 : Nat) ^ 7 = 562949953421312 := by decide
  exact vi_len 6 n (by omega)
theorem vi_big (n : Nat) (h : ¬ n < 128) : vi n = UInt8.ofNat (128 + n % 128) :: vi (n / 128) := by rw [vi, if_neg h]
theorem vi_small (n : Nat) (h : n < 128) : vi n = [UInt8.ofNat n] := by rw [vi, if_pos h]

/-- A number in w bytes, the greatest first. -/
def be : Nat → Nat → List UInt8
  | 0, _ => []
  | w + 1, n => be w (n / 256) ++ [UInt8.ofNat (n % 256)]
theorem be_len : ∀ (w n : Nat), (be w n).length = w
  | 0, _ => rfl
  | w + 1, n => by simp [be, be_len w]
theorem be_front : ∀ (w n : Nat), be (w + 1) n = UInt8.ofNat (n / 256 ^ w % 256) :: be w n
  | 0, n => by simp [be]
  | w + 1, n => by
    rw [be, be_front w (n / 256), List.cons_append, be]
    congr 3
    rw [Nat.pow_succ, Nat.mul_comm, Nat.div_div_eq_div_mul]

/-- Bytes read as a number, the greatest first. -/
def de (l : List UInt8) : Nat := l.foldl (fun a b => a * 256 + b.toNat) 0
theorem de_snoc (l : List UInt8) (b : UInt8) : de (l ++ [b]) = de l * 256 + b.toNat := by simp [de]
theorem de_succ (l : List UInt8) (k : Nat) (h : k < l.length) : de (l.take (k + 1)) = de (l.take k) * 256 + (l.getD k 0).toNat := by
  rw [take_succ_getD l 0 k h, de_snoc]
theorem de_lt : ∀ (n : Nat) (l : List UInt8), l.length = n → de l < 256 ^ n
  | 0, l, h => by
    have : l = [] := List.eq_nil_of_length_eq_zero h
    subst this; simp [de]
  | n + 1, l, h => by
    have hne : l ≠ [] := fun hh => by rw [hh] at h; simp at h
    rw [← List.dropLast_concat_getLast hne, de_snoc]
    have h1 := de_lt n l.dropLast (by simp [h])
    have h2 := (l.getLast hne).toNat_lt
    rw [Nat.pow_succ]
    omega
theorem de_take_lt (l : List UInt8) (k : Nat) (h : k ≤ 6) : de (l.take k) < 281474976710656 := by
  have h1 := de_lt _ (l.take k) rfl
  have h2 : (l.take k).length ≤ 6 := by simp; omega
  have h3 : (256 : Nat) ^ (l.take k).length ≤ 256 ^ 6 := Nat.pow_le_pow_right (by decide) h2
  have h4 : (256 : Nat) ^ 6 = 281474976710656 := by decide
  omega
theorem de_take_lt7 (l : List UInt8) (k : Nat) (h : k ≤ 7) : de (l.take k) < 72057594037927936 := by
  have h1 := de_lt _ (l.take k) rfl
  have h2 : (l.take k).length ≤ 7 := by simp; omega
  have h3 : (256 : Nat) ^ (l.take k).length ≤ 256 ^ 7 := Nat.pow_le_pow_right (by decide) h2
  have h4 : (256 : Nat) ^ 7 = 72057594037927936 := by decide
  omega

/-- Decimal digits, the greatest first; none for 0. -/
def dg (n : Nat) : List UInt8 := if n = 0 then [] else dg (n / 10) ++ [UInt8.ofNat (48 + n % 10)]
termination_by n
decreasing_by omega
theorem dg_zero : dg 0 = [] := by rw [dg, if_pos rfl]
theorem dg_pos (n : Nat) (h : n ≠ 0) : dg n = dg (n / 10) ++ [UInt8.ofNat (48 + n % 10)] := by rw [dg, if_neg h]
theorem dg_len : ∀ (k n : Nat), n < 10 ^ k → (dg n).length ≤ k
  | 0, n, h => by
    have : n = 0 := by simpa using h
    subst this; rw [dg_zero]; simp
  | k + 1, n, h => by
    by_cases h0 : n = 0
    · subst h0; rw [dg_zero]; simp
    · have := dg_len k (n / 10) (by rw [Nat.pow_succ] at h; exact Nat.div_lt_of_lt_mul (by rw [Nat.mul_comm]; exact h))
      rw [dg_pos n h0]
      simpa using this
theorem dg_len20 (n : Nat) (h : n ≤ 9223372036854775808) : (dg n).length ≤ 19 := by
  have e : (10 : Nat) ^ 19 = 10000000000000000000 := by decide
  exact dg_len 19 n (by omega)
def fmtInt (n : Int) : List UInt8 := if n = 0 then [48] else (if n < 0 then [45] else []) ++ dg n.natAbs
theorem fmtInt_len (n : Int) (h : -9223372036854775808 ≤ n ∧ n ≤ 9223372036854775807) : (fmtInt n).length ≤ 20 := by
  have := dg_len20 n.natAbs (by omega)
  unfold fmtInt
  split
  · simp
  · split <;> simp <;> omega
theorem natAbs_tdiv10 (n : Int) : (n.tdiv 10).natAbs = n.natAbs / 10 := by
  rw [Int.natAbs_tdiv]
  rfl
theorem natAbs_tmod10 (n : Int) : (n.tmod 10).natAbs = n.natAbs % 10 := by
  rw [Int.natAbs_tmod]
  rfl
/-- A list turned round in its first k and last k places. -/
def revk (k : Nat) (l : List UInt8) : List UInt8 := (List.range l.length).map fun x => if x < k ∨ l.length - k ≤ x then l.getD (l.length - 1 - x) 0 else l.getD x 0
theorem revk_zero (l : List UInt8) : revk 0 l = l := by
  apply List.ext_getElem?
  intro i
  by_cases h : i < l.length
  · have : ¬ l.length ≤ i := by omega
    simp [revk, h, this]
  · rw [List.getElem?_eq_none (by simp [revk]; omega), List.getElem?_eq_none (by omega)]
theorem revk_len (k : Nat) (l : List UInt8) : (revk k l).length = l.length := by simp [revk]
theorem revk_get (k : Nat) (l : List UInt8) (x : Nat) (hx : x < l.length) : (revk k l).getD x 0 = if x < k ∨ l.length - k ≤ x then l.getD (l.length - 1 - x) 0 else l.getD x 0 := by
  simp [revk, hx]
theorem revk_step (k : Nat) (l : List UInt8) (h : k < l.length - 1 - k) : ((revk k l).set k ((revk k l).getD (l.length - 1 - k) 0)).set (l.length - 1 - k) ((revk k l).getD k 0) = revk (k + 1) l := by
  apply List.ext_getElem?
  intro x
  by_cases hx : x < l.length
  · have e1 : (revk (k + 1) l)[x]? = some ((revk (k + 1) l).getD x 0) := by simp [revk_len, hx]
    rw [e1, revk_get _ _ _ hx, List.getElem?_set]
    by_cases h1 : l.length - 1 - k = x
    · rw [if_pos h1, if_pos (by simp [revk_len]; omega), revk_get _ _ _ (by omega), if_neg (by omega), if_pos (by omega)]
      congr 2; omega
    · rw [if_neg h1, List.getElem?_set]
      by_cases h2 : k = x
      · rw [if_pos h2, if_pos (by simp [revk_len]; omega), revk_get _ _ _ (by omega), if_neg (by omega), if_pos (by omega)]
        congr 2; omega
      · rw [if_neg h2]
        have e2 : (revk k l)[x]? = some ((revk k l).getD x 0) := by simp [revk_len, hx]
        rw [e2, revk_get _ _ _ hx]
        by_cases h3 : x < k ∨ l.length - k ≤ x
        · rw [if_pos h3, if_pos (by omega)]
        · rw [if_neg h3, if_neg (by omega)]
  · rw [List.getElem?_eq_none (by simp [revk_len]; omega), List.getElem?_eq_none (by simp [revk_len]; omega)]
theorem revk_end (k : Nat) (l : List UInt8) (h : ¬ (k : Int) < (l.length : Int) - 1 - k) : revk k l = l.reverse := by
  apply List.ext_getElem?
  intro x
  by_cases hx : x < l.length
  · have e1 : (revk k l)[x]? = some ((revk k l).getD x 0) := by simp [revk_len, hx]
    rw [e1, revk_get _ _ _ hx, List.getElem?_reverse hx]
    have e2 : l[l.length - 1 - x]? = some (l.getD (l.length - 1 - x) 0) := by
      have : l.length - 1 - x < l.length := by omega
      simp [this]
    rw [e2]
    by_cases h3 : x < k ∨ l.length - k ≤ x
    · rw [if_pos h3]
    · rw [if_neg h3]
      have : l.length - 1 - x = x := by omega
      rw [this]
  · rw [List.getElem?_eq_none (by simp [revk_len]; omega), List.getElem?_eq_none (by simp; omega)]

def encF (n width : Int) : List UInt8 := if 1 ≤ width ∧ width ≤ 7 ∧ 0 ≤ n ∧ n.toNat < 256 ^ width.toNat then be width.toNat n.toNat else []
theorem p8 (width : Int) (h : 1 ≤ width ∧ width ≤ 7) : ∃ B : Nat, 1 ≤ B ∧ B ≤ 72057594037927936 ∧ (1 : Int) * 2 ^ (8 * width).toNat = (B : Int) ∧ 256 ^ width.toNat = B := by
  have : width = 1 ∨ width = 2 ∨ width = 3 ∨ width = 4 ∨ width = 5 ∨ width = 6 ∨ width = 7 := by omega
  refine ⟨256 ^ width.toNat, ?_⟩
  rcases this with rfl | rfl | rfl | rfl | rfl | rfl | rfl <;> decide
theorem fix_step (W k N : Nat) (h : k < W) : ((List.replicate (W - k) 0 ++ be k N).map yv).set (W - 1 - k) (yv (UInt8.ofNat (N / 256 ^ k % 256))) = (List.replicate (W - (k + 1)) 0 ++ be (k + 1) N).map yv := by
  rw [← List.map_set]
  congr 1
  rw [be_front]
  have e1 : W - k = (W - (k + 1)) + 1 := by omega
  have e2 : W - 1 - k = W - (k + 1) := by omega
  rw [e1, e2]
  generalize W - (k + 1) = q
  have : ∀ (q : Nat) (r : List UInt8) (x : UInt8), (List.replicate (q + 1) 0 ++ r).set q x = List.replicate q 0 ++ x :: r := by
    intro q
    induction q with
    | zero => intro r x; simp [List.replicate_succ]
    | succ q ih => intro r x; rw [List.replicate_succ, List.cons_append, List.set_cons_succ, ih]; simp [List.replicate_succ]
  exact this q _ _
theorem fmt_cut (n : Int) (o : List UInt8) (h0 : n ≠ 0) (h : dg n.natAbs = o.reverse) : (if n < 0 then o ++ [45] else o).reverse = fmtInt n := by
  unfold fmtInt
  rw [if_neg h0, h]
  split <;> simp
end Go.Proofs.Ytljllahlnbkimaa
