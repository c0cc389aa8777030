/- Plain mathematics of masks and of places picked out. No program in sight. -/
import Derived.Test.YtmkalfofmodbdaaMr
import Derived.Test.YtmkalfofmodbdaaMj
namespace Go.Proofs.Ytmkalfofmodbdaa

/-- The places below k at which f holds. -/
def pickIx (f : Nat → Bool) (k : Nat) : List Int := (List.range k).flatMap fun (j : Nat) => if f j = true then [(j : Int)] else []
theorem pickIx_zero (f : Nat → Bool) : pickIx f 0 = [] := by simp [pickIx]
theorem pickIx_yes (f : Nat → Bool) (k : Nat) (h : f k = true) : pickIx f (k + 1) = pickIx f k ++ [(k : Int)] := by
  unfold pickIx; rw [List.range_succ, List.flatMap_append]; simp [h]
theorem pickIx_no (f : Nat → Bool) (k : Nat) (h : ¬ f k = true) : pickIx f (k + 1) = pickIx f k := by
  unfold pickIx; rw [List.range_succ, List.flatMap_append]; simp [h]
theorem pickIx_len (f : Nat → Bool) : ∀ k, (pickIx f k).length = cnt k f
  | 0 => rfl
  | k + 1 => by
    by_cases h : f k = true
    · rw [pickIx_yes f k h, List.length_append, pickIx_len f k, cnt_succ, h]; rfl
    · rw [pickIx_no f k h, pickIx_len f k, cnt_succ]
      have : f k = false := by simpa using h
      rw [this]; rfl
theorem pickIx_le (f : Nat → Bool) (k : Nat) : (pickIx f k).length ≤ k := by rw [pickIx_len]; exact cnt_le k f
theorem mem_pickIx (f : Nat → Bool) (z : Int) : ∀ k, z ∈ pickIx f k ↔ ∃ j : Nat, j < k ∧ f j = true ∧ z = (j : Int)
  | 0 => by simp [pickIx]
  | k + 1 => by
    have ih := mem_pickIx f z k
    by_cases h : f k = true
    · rw [pickIx_yes f k h, List.mem_append, List.mem_singleton, ih]
      constructor
      · rintro (⟨j, a, b, c⟩ | rfl)
        · exact ⟨j, by omega, b, c⟩
        · exact ⟨k, by omega, h, rfl⟩
      · rintro ⟨j, a, b, c⟩
        by_cases hj : j = k
        · subst hj; exact .inr c
        · exact .inl ⟨j, by omega, b, c⟩
    · rw [pickIx_no f k h, ih]
      constructor
      · rintro ⟨j, a, b, c⟩; exact ⟨j, by omega, b, c⟩
      · rintro ⟨j, a, b, c⟩
        by_cases hj : j = k
        · subst hj; exact absurd b h
        · exact ⟨j, by omega, b, c⟩
theorem pickIx_congr {f g : Nat → Bool} : ∀ k, (∀ j, j < k → f j = g j) → pickIx f k = pickIx g k
  | 0, _ => rfl
  | k + 1, h => by
    have ih := pickIx_congr k (fun j hj => h j (by omega))
    by_cases hf : f k = true
    · rw [pickIx_yes f k hf, pickIx_yes g k (by rw [← h k (by omega)]; exact hf), ih]
    · rw [pickIx_no f k hf, pickIx_no g k (by rw [← h k (by omega)]; exact hf), ih]

/-! ### Bars that a list of points spans -/
def spF (s : List Int) (xs : List (Int × Int)) (j : Nat) : Bool := decide ((xs.getD j default).1 ∈ s) && decide ((xs.getD j default).2 ∈ s)
theorem spF_yes {s : List Int} {xs : List (Int × Int)} {j : Nat} (h1 : (xs.getD j default).1 ∈ s) (h2 : (xs.getD j default).2 ∈ s) : spF s xs j = true := by unfold spF; rw [decide_eq_true h1, decide_eq_true h2]; rfl
theorem spF_no1 {s : List Int} {xs : List (Int × Int)} {j : Nat} (h1 : ¬ (xs.getD j default).1 ∈ s) : ¬ spF s xs j = true := by unfold spF; rw [decide_eq_false h1]; simp
theorem spF_no2 {s : List Int} {xs : List (Int × Int)} {j : Nat} (h1 : ¬ (xs.getD j default).2 ∈ s) : ¬ spF s xs j = true := by unfold spF; rw [decide_eq_false h1]; simp

/-! ### Masks -/
def bitN (mask v : Nat) : Nat := mask / 2 ^ v % 2
def maskV (mask : Nat) (v : Int) : Bool := bitN mask v.toNat == 1
def setL (n mask : Nat) : List Int := pickIx (fun v => maskV mask (v : Int)) n
theorem bitN_lt (mask v : Nat) : bitN mask v < 2 := Nat.mod_lt _ (by decide)
theorem bitN_of (mask v : Nat) : bitN mask v = (maskV mask (v : Int)).toNat := by
  have := bitN_lt mask v
  unfold maskV
  rw [Int.toNat_natCast]
  have h : bitN mask v = 0 ∨ bitN mask v = 1 := by omega
  rcases h with h | h <;> rw [h] <;> rfl
theorem maskV_iff (mask v : Nat) : maskV mask (v : Int) = true ↔ bitN mask v = 1 := by
  unfold maskV; rw [Int.toNat_natCast]; simp
theorem setL_len (n mask : Nat) : (setL n mask).length = sz n (maskV mask) := pickIx_len _ _
theorem mem_setL (n mask : Nat) (z : Int) : z ∈ setL n mask ↔ 0 ≤ z ∧ z < n ∧ maskV mask z = true := by
  unfold setL
  rw [mem_pickIx]
  constructor
  · rintro ⟨j, a, b, rfl⟩; exact ⟨by omega, by omega, b⟩
  · rintro ⟨a, b, c⟩
    exact ⟨z.toNat, by omega, by rw [show ((z.toNat : Nat) : Int) = z by omega]; exact c, by omega⟩
theorem dec_setL {n mask : Nat} {z : Int} (h0 : 0 ≤ z) (h1 : z < n) : decide (z ∈ setL n mask) = maskV mask z := by
  rw [Bool.eq_iff_iff, decide_eq_true_eq, mem_setL]
  exact ⟨fun h => h.2.2, fun h => ⟨h0, h1, h⟩⟩
theorem sz_succ (n : Nat) (V : Int → Bool) : sz (n + 1) V = sz n V + (V (n : Int)).toNat := cnt_succ n _
theorem and_bits (mask a b : Nat) : ((mask / 2 ^ a) &&& (mask / 2 ^ b)) % 2 = bitN mask a * bitN mask b := by
  have := Nat.and_mod_two_pow (n := 1) (a := mask / 2 ^ a) (b := mask / 2 ^ b)
  rw [Nat.pow_one] at this
  rw [this]
  have h1 := bitN_lt mask a
  have h2 := bitN_lt mask b
  unfold bitN at *
  generalize mask / 2 ^ a % 2 = x at *
  generalize mask / 2 ^ b % 2 = y at *
  have hx : x = 0 ∨ x = 1 := by omega
  have hy : y = 0 ∨ y = 1 := by omega
  rcases hx with rfl | rfl <;> rcases hy with rfl | rfl <;> rfl
/-- The bars among the first k that lie within a set of points. -/
def inK (V : Int → Bool) (xs : List (Int × Int)) (k : Nat) : Nat := (xs.take k).countP (inB V)
theorem inK_succ (V : Int → Bool) (xs : List (Int × Int)) (k : Nat) (h : k < xs.length) : inK V xs (k + 1) = inK V xs k + (inB V (xs.getD k default)).toNat := by
  unfold inK
  rw [take_succ_getD xs default k h, List.countP_append, List.countP_singleton]
  cases inB V (xs.getD k default) <;> rfl
theorem inK_le (V : Int → Bool) (xs : List (Int × Int)) (k : Nat) : inK V xs k ≤ k := Nat.le_trans List.countP_le_length (List.length_take_le _ _)
theorem inB_bits (mask : Nat) (x : Int × Int) (h1 : 0 ≤ x.1) (h2 : 0 ≤ x.2) : ((mask / 2 ^ x.1.toNat) &&& (mask / 2 ^ x.2.toNat)) % 2 = (inB (maskV mask) x).toNat := by
  rw [and_bits, bitN_of, bitN_of]
  unfold inB
  rw [show ((x.1.toNat : Nat) : Int) = x.1 by omega, show ((x.2.toNat : Nat) : Int) = x.2 by omega]
  cases maskV mask x.1 <;> cases maskV mask x.2 <;> rfl
/-- As many as a set of points spans. -/
theorem span_set {n : Int} {xs : List (Int × Int)} (hg : isG n xs) (mask : Nat) : (pickIx (spF (setL n.toNat mask) xs) xs.length).length = inK (maskV mask) xs xs.length := by
  rw [pickIx_len]
  unfold inK
  rw [List.take_length, countP_cnt default]
  refine cnt_congr fun j hj => ?_
  have hb := gBar hg j hj
  unfold spF inB
  rw [dec_setL (z := (xs.getD j default).1) (by omega) (by omega), dec_setL (z := (xs.getD j default).2) (by omega) (by omega)]
/-- The set of a mask spans too many. -/
def overM (n k l : Int) (xs : List (Int × Int)) (mask : Nat) : Prop := 0 < inK (maskV mask) xs xs.length ∧ k * sz n.toNat (maskV mask) - l < inK (maskV mask) xs xs.length
instance (n k l : Int) (xs : List (Int × Int)) (mask : Nat) : Decidable (overM n k l xs mask) := by unfold overM; infer_instance
def ovScan (n k l : Int) (xs : List (Int × Int)) : Nat → Nat → Option Nat
  | 0, _ => none
  | r + 1, mask => if overM n k l xs mask then some mask else ovScan n k l xs r (mask + 1)
def ovI (n k l : Int) (xs : List (Int × Int)) : Option Nat := if isG n xs ∧ (1 ≤ k ∧ k ≤ 3 ∧ 0 ≤ l ∧ l < 2 * k) then ovScan n k l xs (2 ^ n.toNat - 1) 1 else none
def ovL (n k l : Int) (xs : List (Int × Int)) : List Int := match ovI n k l xs with
  | some mask => setL n.toNat mask
  | none => []
theorem ovScan_yes {n k l : Int} {xs : List (Int × Int)} {r mask : Nat} (h : overM n k l xs mask) (hr : 0 < r) : ovScan n k l xs r mask = some mask := by
  obtain ⟨r, rfl⟩ : ∃ q, r = q + 1 := ⟨r - 1, by omega⟩
  unfold ovScan; rw [if_pos h]
theorem ovScan_no {n k l : Int} {xs : List (Int × Int)} {r mask : Nat} (h : ¬ overM n k l xs mask) (hr : 0 < r) : ovScan n k l xs r mask = ovScan n k l xs (r - 1) (mask + 1) := by
  obtain ⟨r, rfl⟩ : ∃ q, r = q + 1 := ⟨r - 1, by omega⟩
  rw [ovScan, if_neg h]; rfl
theorem two_pow8 {n : Int} (h : 1 ≤ n ∧ n ≤ 8) : 2 ^ n.toNat ≤ 256 ∧ 2 ≤ 2 ^ n.toNat := by
  have a : 2 ^ n.toNat ≤ 2 ^ 8 := Nat.pow_le_pow_right (by decide) (by omega)
  have b : 2 ^ 1 ≤ 2 ^ n.toNat := Nat.pow_le_pow_right (by decide) (by omega)
  omega
theorem sz_le (n : Nat) (V : Int → Bool) : sz n V ≤ n := cnt_le n _

theorem ovScan_some {n k l : Int} {xs : List (Int × Int)} : ∀ (r m0 mask : Nat), ovScan n k l xs r m0 = some mask → overM n k l xs mask ∧ m0 ≤ mask ∧ mask < m0 + r
  | 0, _, _, h => by cases h
  | r + 1, m0, mask, h => by
    unfold ovScan at h
    split at h
    · injection h with h; subst h; exact ⟨by assumption, by omega, by omega⟩
    · have := ovScan_some r (m0 + 1) mask h
      exact ⟨this.1, by omega, by omega⟩
theorem ovScan_none {n k l : Int} {xs : List (Int × Int)} : ∀ (r m0 : Nat), ovScan n k l xs r m0 = none → ∀ mask, m0 ≤ mask → mask < m0 + r → ¬ overM n k l xs mask
  | 0, _, _, _, _, _ => by omega
  | r + 1, m0, h, mask, h1, h2 => by
    unfold ovScan at h
    split at h
    · cases h
    · by_cases hm : mask = m0
      · subst hm; assumption
      · exact ovScan_none r (m0 + 1) h mask (by omega) (by omega)
/-- Each set of points has a mask. -/
theorem mask_of (V : Int → Bool) : ∀ n : Nat, ∃ mask, mask < 2 ^ n ∧ ∀ v : Nat, v < n → maskV mask (v : Int) = V (v : Int)
  | 0 => ⟨0, by decide, fun v h => by omega⟩
  | n + 1 => by
    obtain ⟨mask, h1, h2⟩ := mask_of V n
    refine ⟨mask + (V (n : Int)).toNat * 2 ^ n, ?_, fun v hv => ?_⟩
    · have : (V (n : Int)).toNat ≤ 1 := by cases V (n : Int) <;> decide
      have := Nat.mul_le_mul_right (2 ^ n) this
      rw [Nat.pow_succ]; omega
    · have e : maskV (mask + (V (n : Int)).toNat * 2 ^ n) (v : Int) = (bitN (mask + (V (n : Int)).toNat * 2 ^ n) v == 1) := by unfold maskV; rw [Int.toNat_natCast]
      rw [e]
      unfold bitN
      by_cases hvn : v = n
      · subst hvn
        rw [Nat.add_mul_div_right _ _ (Nat.pow_pos (by decide)), Nat.div_eq_of_lt h1]
        cases V (v : Int) <;> rfl
      · have hlt : v < n := by omega
        rw [← h2 v hlt]
        unfold maskV bitN
        rw [Int.toNat_natCast]
        obtain ⟨d, rfl⟩ : ∃ d, n = v + 1 + d := ⟨n - v - 1, by omega⟩
        have e2 : (V ((v + 1 + d : Nat) : Int)).toNat * 2 ^ (v + 1 + d) = (2 * ((V ((v + 1 + d : Nat) : Int)).toNat * 2 ^ d)) * 2 ^ v := by
          rw [Nat.pow_add, Nat.pow_succ]
          simp only [Nat.mul_assoc, Nat.mul_comm, Nat.mul_left_comm]
        rw [e2, Nat.add_mul_div_right _ _ (Nat.pow_pos (by decide)), Nat.add_mul_mod_self_left]
/-- No mask spans too many: sparse. -/
theorem ov_sparse {n k l : Nat} {xs : List (Int × Int)} (hg : isG (n : Int) xs) (hr : 1 ≤ (k : Int) ∧ (k : Int) ≤ 3 ∧ 0 ≤ (l : Int) ∧ (l : Int) < 2 * k) : ovI n k l xs = none ↔ IndL n k l xs := by
  unfold ovI
  rw [if_pos ⟨hg, hr⟩]
  have h2 := two_pow8 ⟨hg.1, hg.2.1⟩
  rw [Int.toNat_natCast] at h2 ⊢
  have eqK : ∀ V V' : Int → Bool, (∀ v : Nat, v < n → V (v : Int) = V' (v : Int)) → xs.countP (inB V) = xs.countP (inB V') ∧ sz n V = sz n V' := by
    intro V V' h
    refine ⟨?_, cnt_congr fun v hv => h v hv⟩
    rw [countP_cnt default, countP_cnt default]
    refine cnt_congr fun j hj => ?_
    have hb := gBar hg j hj
    have a1 := h (xs.getD j default).1.toNat (by omega)
    have a2 := h (xs.getD j default).2.toNat (by omega)
    rw [show (((xs.getD j default).1.toNat : Nat) : Int) = (xs.getD j default).1 by omega] at a1
    rw [show (((xs.getD j default).2.toNat : Nat) : Int) = (xs.getD j default).2 by omega] at a2
    unfold inB
    rw [a1, a2]
  have ovr : ∀ mask, overM n k l xs mask ↔ 0 < xs.countP (inB (maskV mask)) ∧ k * sz n (maskV mask) < xs.countP (inB (maskV mask)) + l := by
    intro mask
    unfold overM inK
    rw [List.take_length, Int.toNat_natCast]
    have e : (k : Int) * (sz n (maskV mask) : Int) = ((k * sz n (maskV mask) : Nat) : Int) := by simp
    rw [e]
    omega
  constructor
  · intro h V hV
    obtain ⟨mask, m1, m2⟩ := mask_of V n
    obtain ⟨e1, e2⟩ := eqK (maskV mask) V m2
    rw [← e1] at hV ⊢
    rw [← e2]
    have hm0 : 1 ≤ mask := by
      rcases Nat.eq_zero_or_pos mask with h0 | h0
      · subst h0
        exfalso
        obtain ⟨x, _, hx⟩ := List.countP_pos_iff.1 hV
        simp [inB, maskV, bitN] at hx
      · exact h0
    have := ovScan_none _ _ h mask hm0 (by omega)
    rw [ovr] at this
    omega
  · intro h
    cases hs : ovScan n k l xs (2 ^ n - 1) 1 with
    | none => rfl
    | some mask =>
      have h1 := ((ovr mask).1 (ovScan_some _ _ _ hs).1)
      have := h (maskV mask) h1.1
      omega
end Go.Proofs.Ytmkalfofmodbdaa
