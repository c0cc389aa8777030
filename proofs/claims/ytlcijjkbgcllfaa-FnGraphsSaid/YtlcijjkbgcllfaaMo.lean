/- Numbers and texts written and read again. No program in sight. -/
import Derived.Test.YtlcijjkbgcllfaaMf
namespace Go.Proofs.Ytlcijjkbgcllfaa

theorem u8_of (x : Nat) (h : x < 256) : (UInt8.ofNat x).toNat = x := by
  rw [UInt8.toNat_ofNat']; omega
/-! ### Seven bits a byte -/
theorem lv_vi : ∀ (m n : Nat), n ≤ m → lv (vi n) = n
  | m, n, h => by
    by_cases hs : n < 128
    · rw [vi_small n hs, lv, lv, u8_of n (by omega)]; omega
    · rw [vi_big n hs, lv, u8_of _ (by omega)]
      match m with
      | 0 => omega
      | m + 1 => rw [lv_vi m (n / 128) (by omega)]; omega
theorem vi_ne (n : Nat) : 1 ≤ (vi n).length := by
  by_cases hs : n < 128
  · rw [vi_small n hs]; simp
  · rw [vi_big n hs]; simp
theorem decV_vi (n : Nat) (h : n ≤ 562949953421311) (t : List UInt8) : decV (vi n ++ t) = (n, (vi n).length) := by
  have h7 := vi_len7 n h
  have ht : (vi n ++ t).take (vi n).length = vi n := by rw [List.take_left']; rfl
  have hok : okV (vi n ++ t) (vi n).length := ⟨vi_ne n, h7, by rw [List.length_append]; omega, by rw [ht, lv_vi n n (Nat.le_refl _)]⟩
  rw [decV_eq hok, ht, lv_vi n n (Nat.le_refl _)]
/-! ### Eight bits a byte -/
theorem de_be : ∀ (w n : Nat), n < 256 ^ w → de (be w n) = n
  | 0, n, h => by
    have : n = 0 := by simpa using h
    subst this; rfl
  | w + 1, n, h => by
    rw [Nat.pow_succ] at h
    rw [be, de_snoc, de_be w (n / 256) (Nat.div_lt_of_lt_mul (by rw [Nat.mul_comm]; exact h)), u8_of _ (by omega)]
    omega
/-! ### Hexadecimal -/
theorem hx_dig (a : Nat) (h : a < 16) : hxv (hexDs.getD a 0).toNat = (a : Int) := hxv_dig a h
theorem decH_enc : ∀ l : List UInt8, decH (hexEnc l) = some l
  | [] => rfl
  | b :: l => by
    have hb : b.toNat < 256 := b.toNat_lt
    have h1 := hxv_dig (b.toNat / 16) (by omega)
    have h2 := hxv_dig (b.toNat % 16) (by omega)
    have e : hexEnc (b :: l) = hexDs.getD (b.toNat / 16) 0 :: hexDs.getD (b.toNat % 16) 0 :: hexEnc l := rfl
    rw [e, decH, decH_enc l, if_neg (by omega), h1, h2]
    simp only [Option.map_some, Option.some.injEq, List.cons.injEq, and_true]
    apply UInt8.toNat.inj
    rw [u8_of _ (by omega)]
    omega
/-! ### Decimal -/
theorem dg_le : ∀ (k n : Nat), (dg n).length ≤ k → n < 10 ^ k
  | 0, n, h => by
    by_cases h0 : n = 0
    · subst h0; decide
    · have := dg_ne n h0; omega
  | k + 1, n, h => by
    by_cases h0 : n = 0
    · subst h0; exact Nat.pow_pos (by decide)
    · rw [dg_pos n h0, List.length_append, List.length_singleton] at h
      have := dg_le k (n / 10) (by omega)
      rw [Nat.pow_succ]; omega
theorem parse_fmt (n : Int) : (parseI (fmtInt n)).2 = decide (-1000000000 < n ∧ n < 1000000000) ∧ ((parseI (fmtInt n)).2 = true → (parseI (fmtInt n)).1 = n) := by
  by_cases h : n.natAbs ≤ 999999999
  · rw [parseI_eq h rfl]
    exact ⟨(decide_eq_true (by omega)).symm, fun _ => rfl⟩
  · have hn : parseI (fmtInt n) = (0, false) := by
      refine parseI_none fun n' h' e => ?_
      obtain ⟨d, e1, e2, e3, e4, e5, e6⟩ := fmt_shape n' h'
      have h0 : n ≠ 0 := by omega
      have hl : 10 ≤ (dg n.natAbs).length := by
        rcases Nat.lt_or_ge (dg n.natAbs).length 10 with hh | hh
        · have := dg_le 9 n.natAbs (by omega)
          omega
        · exact hh
      rw [e1] at e
      unfold fmtInt at e
      rw [if_neg h0] at e
      have hlen := congrArg List.length e
      by_cases c1 : n' < 0 <;> by_cases c2 : n < 0
      · rw [if_pos c1, if_pos c2] at hlen; simp at hlen; omega
      · rw [if_pos c1, if_neg c2, List.nil_append] at e
        have hd := dg_digit _ n.natAbs (Nat.le_refl _) 45 (by rw [← e]; simp)
        revert hd; decide
      · rw [if_neg c1, if_pos c2] at hlen; simp at hlen; omega
      · rw [if_neg c1, if_neg c2] at hlen; simp at hlen; omega
    rw [hn]
    exact ⟨(decide_eq_false (by omega)).symm, fun h => by cases h⟩
/-! ### What the statement on encodings asks -/
def encV (n : Int) : List UInt8 := if 0 ≤ n ∧ n ≤ 562949953421311 then vi n.toNat else []
theorem encV_ne (n : Int) : encV n ≠ [] ↔ 0 ≤ n ∧ n ≤ 562949953421311 := by
  unfold encV
  split
  · rename_i h
    refine ⟨fun _ => h, fun _ hh => ?_⟩
    have := vi_ne n.toNat
    rw [hh] at this; simp at this
  · rename_i h
    exact ⟨fun hh => absurd rfl hh, fun hh => absurd hh h⟩
theorem encV_len (n : Int) : (encV n).length ≤ 7 := by
  unfold encV
  split
  · exact vi_len7 _ (by omega)
  · simp
theorem encV_dec (n : Int) (t : List UInt8) (h : encV n ≠ []) : ((decV (encV n ++ t)).1 : Int) = n ∧ (decV (encV n ++ t)).2 = (encV n).length := by
  have hn := (encV_ne n).1 h
  have e : encV n = vi n.toNat := by unfold encV; rw [if_pos hn]
  rw [e, decV_vi n.toNat (by omega) t]
  exact ⟨by show ((n.toNat : Nat) : Int) = n; omega, rfl⟩
theorem encF_len (n width : Int) : (encF n width).length ≤ 7 := by
  unfold encF
  split
  · rw [be_len]; omega
  · simp
theorem encF_facts (n width : Int) (t : List UInt8) (h : encF n width ≠ []) : (1 ≤ width ∧ width ≤ 7 ∧ width ≤ ((encF n width ++ t).length : Int)) ∧ (de ((encF n width ++ t).take width.toNat) : Int) = n ∧ ((encF n width).length : Int) = width := by
  unfold encF at h ⊢
  split
  · rename_i hc
    have hl := be_len width.toNat n.toNat
    refine ⟨⟨hc.1, hc.2.1, by rw [List.length_append, hl]; omega⟩, ?_, by rw [hl]; omega⟩
    rw [List.take_left' hl, de_be _ _ hc.2.2.2]; omega
  · rename_i hc
    rw [if_neg hc] at h; exact absurd rfl h
theorem mulB {a b : Int} (ha : 0 ≤ a ∧ a < 1000000000) (hb : 0 ≤ b ∧ b < 1000000000) : 0 ≤ a * b ∧ a * b ≤ 1000000000000000000 := by
  refine ⟨Int.mul_nonneg ha.1 hb.1, ?_⟩
  have := Int.mul_le_mul (a := a) (b := b) (c := 1000000000) (d := 1000000000) (by omega) (by omega) hb.1 (by decide)
  simpa using this
end Go.Proofs.Ytlcijjkbgcllfaa
