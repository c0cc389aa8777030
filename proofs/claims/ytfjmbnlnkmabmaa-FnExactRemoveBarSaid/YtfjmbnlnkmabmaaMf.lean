/- Plain mathematics of the decodings: no program in sight. -/
import Derived.Test.YtfjmbnlnkmabmaaMe
namespace Go.Proofs.Ytfjmbnlnkmabmaa

/-! ### Hex -/
def hxv (b : Nat) : Int := if 48 ≤ b ∧ b ≤ 57 then (b : Int) - 48 else if 97 ≤ b ∧ b ≤ 102 then (b : Int) - 87 else -1
theorem hxv_dig (k : Nat) (h : k < 16) : hxv (hexDs.getD k 0).toNat = (k : Int) := by
  have : k = 0 ∨ k = 1 ∨ k = 2 ∨ k = 3 ∨ k = 4 ∨ k = 5 ∨ k = 6 ∨ k = 7 ∨ k = 8 ∨ k = 9 ∨ k = 10 ∨ k = 11 ∨ k = 12 ∨ k = 13 ∨ k = 14 ∨ k = 15 := by omega
  rcases this with rfl | rfl | rfl | rfl | rfl | rfl | rfl | rfl | rfl | rfl | rfl | rfl | rfl | rfl | rfl | rfl <;> decide
theorem hxv_none (b : Nat) (h : ∀ j, j < 16 → ¬ (((hexDs.getD j 0).toNat : Int) = (b : Int))) : hxv b = -1 := by
  have h0 := h 0 (by omega); have h1 := h 1 (by omega); have h2 := h 2 (by omega); have h3 := h 3 (by omega)
  have h4 := h 4 (by omega); have h5 := h 5 (by omega); have h6 := h 6 (by omega); have h7 := h 7 (by omega)
  have h8 := h 8 (by omega); have h9 := h 9 (by omega); have h10 := h 10 (by omega); have h11 := h 11 (by omega)
  have h12 := h 12 (by omega); have h13 := h 13 (by omega); have h14 := h 14 (by omega); have h15 := h 15 (by omega)
  simp [hexDs] at h0 h1 h2 h3 h4 h5 h6 h7 h8 h9 h10 h11 h12 h13 h14 h15
  unfold hxv
  split
  · omega
  · split
    · omega
    · rfl
theorem hxv_lt (b : Nat) : hxv b < 16 ∧ -1 ≤ hxv b := by
  unfold hxv
  split
  · omega
  · split <;> omega
def decH : List UInt8 → Option (List UInt8)
  | [] => some []
  | [_] => none
  | a :: b :: r => if hxv a.toNat < 0 ∨ hxv b.toNat < 0 then none else (decH r).map (UInt8.ofNat (16 * hxv a.toNat + hxv b.toNat).toNat :: ·)
theorem decH_odd : ∀ (n : Nat) (l : List UInt8), l.length ≤ n → l.length % 2 = 1 → decH l = none
  | _, [], _, h => by simp at h
  | _, [_], _, _ => rfl
  | 0, a :: b :: r, hn, _ => by simp at hn
  | n + 1, a :: b :: r, hn, h => by
    rw [decH, decH_odd n r (by simp at hn; omega) (by simp at h; omega)]
    split <;> rfl
theorem drop_getD {α : Type} (l : List α) (d : α) (k : Nat) (h : k < l.length) : l.drop k = l.getD k d :: l.drop (k + 1) := by
  rw [List.drop_eq_getElem_cons h]
  simp [h]
theorem decH_step (l : List UInt8) (k : Nat) (h : 2 * k + 1 < l.length) : decH (l.drop (2 * k)) =
    if hxv (l.getD (2 * k) 0).toNat < 0 ∨ hxv (l.getD (2 * k + 1) 0).toNat < 0 then none else (decH (l.drop (2 * (k + 1)))).map (UInt8.ofNat (16 * hxv (l.getD (2 * k) 0).toNat + hxv (l.getD (2 * k + 1) 0).toNat).toNat :: ·) := by
  rw [drop_getD l 0 (2 * k) (by omega), drop_getD l 0 (2 * k + 1) h, decH]
  rfl
def dhInv (l : List UInt8) (k : Nat) (o : List UInt8) : Prop := decH l = (decH (l.drop (2 * k))).map (o ++ ·)
theorem dhInv_zero (l : List UInt8) : dhInv l 0 [] := by unfold dhInv; cases h : decH l <;> simp [h]
theorem dhInv_bad (l : List UInt8) (k : Nat) (o : List UInt8) (h : 2 * k + 1 < l.length) (hi : dhInv l k o) (hb : hxv (l.getD (2 * k) 0).toNat < 0 ∨ hxv (l.getD (2 * k + 1) 0).toNat < 0) : decH l = none := by
  rw [hi, decH_step l k h, if_pos hb]; rfl
theorem dhInv_next (l : List UInt8) (k : Nat) (o : List UInt8) (h : 2 * k + 1 < l.length) (hi : dhInv l k o) (hb : ¬ (hxv (l.getD (2 * k) 0).toNat < 0 ∨ hxv (l.getD (2 * k + 1) 0).toNat < 0)) :
    dhInv l (k + 1) (o ++ [UInt8.ofNat (16 * hxv (l.getD (2 * k) 0).toNat + hxv (l.getD (2 * k + 1) 0).toNat).toNat]) := by
  unfold dhInv at *
  rw [hi, decH_step l k h, if_neg hb]
  cases decH (l.drop (2 * (k + 1))) <;> simp
theorem dhInv_end (l : List UInt8) (k : Nat) (o : List UInt8) (h : l.length ≤ 2 * k) (hi : dhInv l k o) : decH l = some o := by
  rw [hi, List.drop_eq_nil_of_le h]
  simp [decH]

/-! ### Varint -/
/-- Low seven bits of each byte, the least first. -/
def lv : List UInt8 → Nat
  | [] => 0
  | b :: r => b.toNat % 128 + 128 * lv r
theorem lv_lt : ∀ l : List UInt8, lv l < 128 ^ l.length
  | [] => by simp [lv]
  | b :: r => by
    have := lv_lt r
    rw [lv, List.length_cons, Nat.pow_succ]
    omega
theorem pow128_le (n : Nat) (h : n ≤ 7) : 128 ^ n ≤ 562949953421312 := by
  have : 128 ^ n ≤ 128 ^ 7 := Nat.pow_le_pow_right (by decide) h
  simpa using this
theorem lv_le7 (l : List UInt8) (h : l.length ≤ 7) : lv l ≤ 562949953421311 := by
  have := lv_lt l
  have := pow128_le l.length h
  omega
theorem lv_append : ∀ (l r : List UInt8), lv (l ++ r) = lv r * 128 ^ l.length + lv l
  | [], r => by simp [lv]
  | b :: l, r => by
    rw [List.cons_append, lv, lv, lv_append l r, List.length_cons, Nat.pow_succ]
    have : 128 * (lv r * 128 ^ l.length) = lv r * (128 ^ l.length * 128) := by
      rw [Nat.mul_comm (128 ^ l.length) 128, ← Nat.mul_assoc, ← Nat.mul_assoc, Nat.mul_comm 128]
    rw [Nat.mul_add, this]
    omega
theorem lv_take_succ (l : List UInt8) (k : Nat) (h : k < l.length) : lv (l.take (k + 1)) = (l.getD k 0).toNat % 128 * 2 ^ (7 * k) + lv (l.take k) := by
  rw [take_succ_getD l 0 k h, lv_append]
  have : (l.take k).length = k := List.length_take_of_le (by omega)
  rw [this, Nat.pow_mul]
  simp [lv]
theorem lv_drop (l : List UInt8) (n i : Nat) (hn : n ≤ l.length) (hi : i < n) : lv ((l.take n).drop i) = lv ((l.take n).drop (i + 1)) * 128 + (l.getD i 0).toNat % 128 := by
  rw [drop_getD (l.take n) 0 i (by rw [List.length_take]; omega), lv]
  have : (l.take n).getD i 0 = l.getD i 0 := by simp [hi]
  rw [this]
  omega
theorem vi_last : ∀ (m n : Nat), n ≤ m → (vi n).length ≠ 0 ∧ (∀ j, j + 1 < (vi n).length → 128 ≤ ((vi n).getD j 0).toNat) ∧ ((vi n).getD ((vi n).length - 1) 0).toNat < 128
  | m, n, h => by
    by_cases hs : n < 128
    · rw [vi_small n hs]
      refine ⟨by simp, fun j hj => by simp at hj, ?_⟩
      simp
      omega
    · cases m with
      | zero => omega
      | succ m =>
        obtain ⟨h1, h2, h3⟩ := vi_last m (n / 128) (by omega)
        rw [vi_big n hs]
        refine ⟨by simp, fun j hj => ?_, ?_⟩
        · cases j with
          | zero => simp; omega
          | succ j => simpa using h2 j (by simpa using hj)
        · have : (vi (n / 128)).length = ((vi (n / 128)).length - 1) + 1 := by omega
          simp only [List.length_cons, Nat.add_sub_cancel]
          rw [this, List.getD_cons_succ]
          exact h3
def okV (l : List UInt8) (k : Nat) : Prop := 1 ≤ k ∧ k ≤ 7 ∧ k ≤ l.length ∧ vi (lv (l.take k)) = l.take k
theorem okV_last {l : List UInt8} {k : Nat} (h : okV l k) : (∀ j, j + 1 < k → 128 ≤ (l.getD j 0).toNat) ∧ (l.getD (k - 1) 0).toNat < 128 := by
  obtain ⟨h1, h2, h3, h4⟩ := h
  obtain ⟨_, g2, g3⟩ := vi_last _ (lv (l.take k)) (Nat.le_refl _)
  rw [h4] at g2 g3
  have hl : (l.take k).length = k := List.length_take_of_le h3
  rw [hl] at g2 g3
  have hg : ∀ j, j < k → (l.take k).getD j 0 = l.getD j 0 := fun j hj => by simp [hj]
  refine ⟨fun j hj => ?_, ?_⟩
  · rw [← hg j (by omega)]; exact g2 j hj
  · rw [← hg (k - 1) (by omega)]; exact g3
theorem okV_uniq {l : List UInt8} {k k' : Nat} (h : okV l k) (h' : okV l k') : k = k' := by
  have h1 := okV_last h
  have h2 := okV_last h'
  have a1 := h.1
  have a2 := h'.1
  rcases Nat.lt_trichotomy k k' with hh | hh | hh
  · have := h2.1 (k - 1) (by omega); omega
  · exact hh
  · have := h1.1 (k' - 1) (by omega); omega
open Classical in
noncomputable def decV (l : List UInt8) : Nat × Nat := if h : ∃ k, okV l k then (lv (l.take h.choose), h.choose) else (0, 0)
theorem decV_eq {l : List UInt8} {k : Nat} (h : okV l k) : decV l = (lv (l.take k), k) := by
  unfold decV
  have h' : ∃ k, okV l k := ⟨k, h⟩
  rw [dif_pos h', okV_uniq h'.choose_spec h]
theorem decV_none {l : List UInt8} (h : ∀ k, ¬ okV l k) : decV l = (0, 0) := by
  unfold decV
  rw [dif_neg (fun ⟨k, hk⟩ => h k hk)]

theorem dv_none {l : List UInt8} {k : Nat} (h1 : ∀ j, j < k → 128 ≤ (l.getD j 0).toNat) (h2 : (l.getD k 0).toNat < 128) (h : vi (lv (l.take (k + 1))) ≠ l.take (k + 1)) : decV l = (0, 0) := by
  refine decV_none fun j hj => ?_
  have h3 := okV_last hj
  have h4 := hj.1
  rcases Nat.lt_trichotomy (j - 1) k with hh | hh | hh
  · have := h1 (j - 1) hh; omega
  · have : j = k + 1 := by omega
    subst this
    exact h hj.2.2.2
  · have := h3.1 k (by omega); omega
theorem dv_out {l : List UInt8} {k : Nat} (h1 : ∀ j, j < k → 128 ≤ (l.getD j 0).toNat) (h2 : 7 ≤ k ∨ l.length ≤ k) : decV l = (0, 0) := by
  refine decV_none fun j hj => ?_
  have h3 := (okV_last hj).2
  obtain ⟨a1, a2, a3, _⟩ := hj
  have := h1 (j - 1) (by omega)
  omega

/-! ### Decimal -/
def dgB (b : UInt8) : Bool := decide (48 ≤ b.toNat ∧ b.toNat ≤ 57)
/-- Value and count of the digits among the bytes. -/
def pf (l : List UInt8) : Nat × Nat := l.foldl (fun s b => if dgB b then (10 * s.1 + (b.toNat - 48), s.2 + 1) else s) (0, 0)
theorem pf_snoc (l : List UInt8) (b : UInt8) : pf (l ++ [b]) = if dgB b then (10 * (pf l).1 + (b.toNat - 48), (pf l).2 + 1) else pf l := by simp [pf]
theorem pf_take_succ (l : List UInt8) (k : Nat) (h : k < l.length) : pf (l.take (k + 1)) = if dgB (l.getD k 0) then (10 * (pf (l.take k)).1 + ((l.getD k 0).toNat - 48), (pf (l.take k)).2 + 1) else pf (l.take k) := by
  rw [take_succ_getD l 0 k h, pf_snoc]
theorem pf_bound (l : List UInt8) : (pf l).1 < 10 ^ (pf l).2 ∧ (pf l).2 ≤ l.length := by
  suffices ∀ n (l : List UInt8), l.length = n → (pf l).1 < 10 ^ (pf l).2 ∧ (pf l).2 ≤ l.length from this _ l rfl
  intro n
  induction n with
  | zero => intro l h; rw [List.eq_nil_of_length_eq_zero h]; simp [pf]
  | succ n ih =>
    intro l h
    have hne : l ≠ [] := fun hh => by rw [hh] at h; simp at h
    rw [← List.dropLast_concat_getLast hne]
    have := ih l.dropLast (by simp [h])
    generalize l.getLast hne = b
    rw [pf_snoc]
    by_cases hb : dgB b = true
    · rw [if_pos hb]
      simp only [dgB, decide_eq_true_eq] at hb
      refine ⟨?_, by rw [List.length_append, List.length_singleton]; simp only; omega⟩
      show 10 * (pf l.dropLast).1 + (b.toNat - 48) < 10 ^ ((pf l.dropLast).2 + 1)
      rw [Nat.pow_succ]
      omega
    · rw [if_neg hb]
      exact ⟨this.1, by rw [List.length_append]; omega⟩
theorem dg_digit : ∀ (m n : Nat), n ≤ m → ∀ b ∈ dg n, dgB b = true
  | m, n, h => by
    by_cases h0 : n = 0
    · subst h0; rw [dg_zero]; simp
    · cases m with
      | zero => omega
      | succ m =>
        rw [dg_pos n h0]
        intro b hb
        rcases List.mem_append.1 hb with hb | hb
        · exact dg_digit m (n / 10) (by omega) b hb
        · rw [List.mem_singleton.1 hb]
          simp [dgB]
          omega
theorem pf_dg : ∀ (m n : Nat), n ≤ m → ∀ (s : List UInt8), pf s = (0, 0) → pf (s ++ dg n) = (n, (dg n).length)
  | m, n, h, s, hs => by
    by_cases h0 : n = 0
    · subst h0; rw [dg_zero]; simp [hs]
    · cases m with
      | zero => omega
      | succ m =>
        rw [dg_pos n h0, ← List.append_assoc, pf_snoc, pf_dg m (n / 10) (by omega) s hs]
        have : dgB (UInt8.ofNat (48 + n % 10)) = true := by simp [dgB]; omega
        rw [if_pos this]
        simp
        omega
theorem dg_len9 (n : Nat) (h : n ≤ 999999999) : (dg n).length ≤ 9 := by
  have e : (10 : Nat) ^ 9 = 1000000000 := by decide
  exact dg_len 9 n (by omega)
theorem dg_ne (n : Nat) (h : n ≠ 0) : 1 ≤ (dg n).length := by rw [dg_pos n h]; simp
/-- The shape of what is written. -/
theorem fmt_shape (n : Int) (h : n.natAbs ≤ 999999999) : ∃ d : List UInt8, fmtInt n = (if n < 0 then [45] else []) ++ d ∧ 1 ≤ d.length ∧ d.length ≤ 9 ∧ (∀ b ∈ d, dgB b = true) ∧ pf (fmtInt n) = (n.natAbs, d.length) ∧ (0 ≤ n → d.getD 0 0 ≠ 45) := by
  have hz : pf [45] = (0, 0) := by decide
  have hf : ∀ d : List UInt8, 1 ≤ d.length → (∀ b ∈ d, dgB b = true) → d.getD 0 0 ≠ 45 := by
    intro d h1 h2 h3
    cases d with
    | nil => simp at h1
    | cons b d =>
      have := h2 b (by simp)
      simp at h3
      subst h3
      exact absurd this (by decide)
  unfold fmtInt
  by_cases h0 : n = 0
  · subst h0
    exact ⟨[48], by decide, by decide, by decide, by decide, by decide, fun _ => by decide⟩
  · rw [if_neg h0]
    have hd := dg_digit _ n.natAbs (Nat.le_refl _)
    have h1 := dg_ne n.natAbs (by omega)
    refine ⟨dg n.natAbs, rfl, h1, dg_len9 _ h, hd, ?_, fun _ => hf _ h1 hd⟩
    split
    · exact pf_dg _ _ (Nat.le_refl _) _ hz
    · exact pf_dg _ _ (Nat.le_refl _) _ rfl
theorem fmt_neg (n : Int) (h : n.natAbs ≤ 999999999) : 1 ≤ (fmtInt n).length ∧ ((fmtInt n).getD 0 0 = 45 ↔ n < 0) := by
  obtain ⟨d, h1, h2, h3, h4, h5, h6⟩ := fmt_shape n h
  rw [h1]
  by_cases hn : n < 0
  · simp [hn]
  · rw [if_neg hn]
    exact ⟨h2, by simp only [List.nil_append]; exact ⟨fun hh => absurd hh (h6 (by omega)), fun hh => absurd hh hn⟩⟩
theorem fmt_inj {n n' : Int} (h : n.natAbs ≤ 999999999) (h' : n'.natAbs ≤ 999999999) (e : fmtInt n = fmtInt n') : n = n' := by
  obtain ⟨d, _, _, _, _, h5, _⟩ := fmt_shape n h
  obtain ⟨d', _, _, _, _, h5', _⟩ := fmt_shape n' h'
  have a1 := (fmt_neg n h).2
  have a2 := (fmt_neg n' h').2
  rw [e, h5'] at h5
  rw [e] at a1
  simp only [Prod.mk.injEq] at h5
  have := a1.symm.trans a2
  omega
open Classical in
noncomputable def parseI (l : List UInt8) : Int × Bool := if h : ∃ n : Int, n.natAbs ≤ 999999999 ∧ fmtInt n = l then (h.choose, true) else (0, false)
theorem parseI_eq {l : List UInt8} {n : Int} (h : n.natAbs ≤ 999999999) (e : fmtInt n = l) : parseI l = (n, true) := by
  unfold parseI
  have h' : ∃ n : Int, n.natAbs ≤ 999999999 ∧ fmtInt n = l := ⟨n, h, e⟩
  rw [dif_pos h', fmt_inj h'.choose_spec.1 h (h'.choose_spec.2.trans e.symm)]
theorem parseI_none {l : List UInt8} (h : ∀ n : Int, n.natAbs ≤ 999999999 → fmtInt n ≠ l) : parseI l = (0, false) := by
  unfold parseI
  rw [dif_neg (fun ⟨n, hn, e⟩ => h n hn e)]
/-- The number that the digits and the sign make. -/
def sg (l : List UInt8) (n : Nat) : Int := if 1 ≤ l.length ∧ l.getD 0 0 = 45 then -(n : Int) else n
theorem sg_abs (l : List UInt8) (n : Nat) : (sg l n).natAbs = n := by unfold sg; split <;> simp
theorem sg_fmt (n : Int) (h : n.natAbs ≤ 999999999) : sg (fmtInt n) (pf (fmtInt n)).1 = n := by
  obtain ⟨d, _, _, _, _, h5, _⟩ := fmt_shape n h
  have a := fmt_neg n h
  rw [h5]
  unfold sg
  by_cases hn : n < 0
  · rw [if_pos ⟨a.1, a.2.2 hn⟩]; simp only; omega
  · rw [if_neg (fun hh => hn (a.2.1 hh.2))]; simp only; omega
theorem fmt_len10 (n : Int) (h : n.natAbs ≤ 999999999) : (fmtInt n).length ≤ 10 ∧ (pf (fmtInt n)).2 ≤ 9 := by
  obtain ⟨d, h1, h2, h3, _, h5, _⟩ := fmt_shape n h
  rw [h5, h1]
  refine ⟨?_, h3⟩
  split <;> simp <;> omega
theorem pow10_9 (n : Nat) (h : n ≤ 9) : 10 ^ n ≤ 1000000000 := by
  have : 10 ^ n ≤ 10 ^ 9 := Nat.pow_le_pow_right (by decide) h
  simpa using this
theorem pow10_11 (n : Nat) (h : n ≤ 11) : 10 ^ n ≤ 100000000000 := by
  have : 10 ^ n ≤ 10 ^ 11 := Nat.pow_le_pow_right (by decide) h
  simpa using this
/-- The reader that judges at the end. -/
theorem parse_end (l : List UInt8) (n : Int) (hn : n = sg l (pf (l.take 11)).1) (h : ¬ (pf (l.take 11)).2 > 9) (_h2 : ¬ l.length > 10) (he : fmtInt n = l) : parseI l = (n, true) := by
  have hb := pf_bound (l.take 11)
  have := pow10_9 (pf (l.take 11)).2 (by omega)
  exact parseI_eq (by rw [hn, sg_abs]; omega) he
theorem parse_bad (l : List UInt8) (h : (pf (l.take 11)).2 > 9 ∨ l.length > 10 ∨ fmtInt (sg l (pf (l.take 11)).1) ≠ l) : parseI l = (0, false) := by
  refine parseI_none fun n hn e => ?_
  subst e
  have h1 := fmt_len10 n hn
  rw [List.take_of_length_le (by omega)] at h
  rcases h with h | h | h
  · omega
  · omega
  · rw [sg_fmt n hn] at h; exact h rfl
/-- The reader that judges byte by byte. -/
def nsg (l : List UInt8) : Nat := if 1 ≤ l.length ∧ l.getD 0 0 = 45 then 1 else 0
theorem nsg_le (l : List UInt8) : nsg l ≤ 1 ∧ nsg l ≤ l.length ∧ pf (l.take (nsg l)) = (0, 0) := by
  unfold nsg
  split
  · rename_i h
    refine ⟨by omega, h.1, ?_⟩
    rw [take_succ_getD l 0 0 (by omega), h.2]
    simp
    decide
  · exact ⟨by omega, by omega, rfl⟩
theorem nsg_fmt (n : Int) (h : n.natAbs ≤ 999999999) : 1 ≤ (fmtInt n).length - nsg (fmtInt n) ∧ (fmtInt n).length - nsg (fmtInt n) ≤ 9 ∧ ∀ i, nsg (fmtInt n) ≤ i → i < (fmtInt n).length → dgB ((fmtInt n).getD i 0) = true := by
  obtain ⟨d, h1, h2, h3, h4, _, h6⟩ := fmt_shape n h
  have a := fmt_neg n h
  have key : ∀ i, i < d.length → dgB (d.getD i 0) = true := fun i hi => by
    have : d.getD i 0 = d[i] := by simp [hi]
    rw [this]; exact h4 _ (List.getElem_mem hi)
  unfold nsg
  by_cases hn : n < 0
  · rw [if_pos ⟨a.1, a.2.2 hn⟩, h1, if_pos hn]
    refine ⟨by simp; omega, by simp; omega, fun i hi hl => ?_⟩
    have : i = (i - 1) + 1 := by omega
    rw [this, List.cons_append, List.getD_cons_succ]
    exact key _ (by simp at hl; omega)
  · rw [if_neg (fun hh => hn (a.2.1 hh.2)), h1, if_neg hn]
    exact ⟨by simp; omega, by simp; omega, fun i _ hl => key i (by simpa using hl)⟩
theorem parse_bad1 (l : List UInt8) (h : ¬ (1 ≤ (l.length : Int) - nsg l ∧ (l.length : Int) - nsg l ≤ 9)) : parseI l = (0, false) := by
  refine parseI_none fun n hn e => ?_
  subst e
  have := nsg_fmt n hn
  omega
theorem parse_bad2 (l : List UInt8) (i : Nat) (h : nsg l ≤ i) (hi : i < l.length) (hd : ¬ (48 ≤ (l.getD i 0).toNat ∧ (l.getD i 0).toNat ≤ 57)) : parseI l = (0, false) := by
  refine parseI_none fun n hn e => ?_
  subst e
  have := (nsg_fmt n hn).2.2 i h hi
  simp only [dgB, decide_eq_true_eq] at this
  exact hd this
theorem parse_bad3 (l : List UInt8) (h : fmtInt (sg l (pf l).1) ≠ l) : parseI l = (0, false) := by
  refine parseI_none fun n hn e => ?_
  subst e
  rw [sg_fmt n hn] at h
  exact h rfl
theorem u45 (b : UInt8) (h : b.toNat = 45) : b = 45 := by
  apply UInt8.toNat_inj.1; rw [h]; rfl
theorem nsg_pos (l : List UInt8) (h : 1 ≤ l.length) (h2 : (l.getD 0 0).toNat = 45) : nsg l = 1 := by
  unfold nsg; rw [if_pos ⟨h, u45 _ h2⟩]
theorem nsg_zero (l : List UInt8) (h : ¬ (1 ≤ l.length ∧ (l.getD 0 0).toNat = 45)) : nsg l = 0 := by
  unfold nsg; rw [if_neg (fun hh => h ⟨hh.1, by rw [hh.2]; rfl⟩)]
theorem sg_nsg (l : List UInt8) (n : Nat) : sg l n = if nsg l = 1 then -(n : Int) else n := by
  unfold sg nsg; split <;> simp
theorem sg_pos (l : List UInt8) (n : Nat) (h : 1 ≤ l.length) (h2 : (l.getD 0 0).toNat = 45) : sg l n = -(n : Int) := by rw [sg_nsg, if_pos (nsg_pos l h h2)]
theorem sg_zero (l : List UInt8) (n : Nat) (h : ¬ (1 ≤ l.length ∧ (l.getD 0 0).toNat = 45)) : sg l n = n := by rw [sg_nsg, if_neg (by rw [nsg_zero l h]; decide)]
theorem take_end (l : List UInt8) (k : Nat) (h : k ≤ 11) (h2 : 11 ≤ k ∨ l.length ≤ k) : l.take k = l.take 11 := by
  by_cases hk : k = 11
  · rw [hk]
  · rw [List.take_of_length_le (by omega), List.take_of_length_le (by omega)]
theorem pf_yes (l : List UInt8) (k : Nat) (h : k < l.length) (h1 : 48 ≤ (l.getD k 0).toNat) (h2 : (l.getD k 0).toNat ≤ 57) : pf (l.take (k + 1)) = (10 * (pf (l.take k)).1 + ((l.getD k 0).toNat - 48), (pf (l.take k)).2 + 1) := by
  rw [pf_take_succ l k h, if_pos (by simp only [dgB, decide_eq_true_eq]; exact ⟨h1, h2⟩)]
theorem pf_no (l : List UInt8) (k : Nat) (h : k < l.length) (h1 : ¬ (48 ≤ (l.getD k 0).toNat ∧ (l.getD k 0).toNat ≤ 57)) : pf (l.take (k + 1)) = pf (l.take k) := by
  rw [pf_take_succ l k h, if_neg (by simp only [dgB, decide_eq_true_eq]; exact h1)]
theorem parse_ok (l : List UInt8) (n : Int) (hn : n = sg l (pf l).1) (h : (pf l).2 ≤ 9) (he : fmtInt n = l) : parseI l = (n, true) := by
  have hb := pf_bound l
  have := pow10_9 (pf l).2 h
  exact parseI_eq (by rw [hn, sg_abs]; omega) he
end Go.Proofs.Ytfjmbnlnkmabmaa
