/- The game's theorem: pebbles can be gathered exactly where one more bar may be placed; what the game accepts, and how many. No program in sight. -/
import Derived.Test.YtmnaohimnladnaaMp
namespace Go.Proofs.Ytmnaohimnladnaa

/-! ### Sums -/
def isum : Nat → (Nat → Int) → Int
  | 0, _ => 0
  | n + 1, g => isum n g + g n
theorem isum_congr {g h : Nat → Int} : ∀ n, (∀ i, i < n → g i = h i) → isum n g = isum n h
  | 0, _ => rfl
  | n + 1, hh => by unfold isum; rw [isum_congr n (fun i hi => hh i (by omega)), hh n (by omega)]
theorem isum_le {g h : Nat → Int} : ∀ n, (∀ i, i < n → g i ≤ h i) → isum n g ≤ isum n h
  | 0, _ => Int.le_refl _
  | n + 1, hh => by
    unfold isum
    have := isum_le n (fun i hi => hh i (by omega))
    have := hh n (by omega)
    omega
theorem isum_add (g h : Nat → Int) : ∀ n, isum n (fun i => g i + h i) = isum n g + isum n h
  | 0 => rfl
  | n + 1 => by simp only [isum]; rw [isum_add g h n]; omega
theorem isum_zero (n : Nat) : isum n (fun _ => 0) = 0 := by
  induction n with
  | zero => rfl
  | succ n ih => unfold isum; rw [ih]; rfl
theorem isum_const (k : Int) (P : Nat → Bool) : ∀ n, isum n (fun i => if P i = true then k else 0) = k * cnt n P
  | 0 => by simp [isum, cnt_zero]
  | n + 1 => by
    simp only [isum]
    rw [isum_const k P n, cnt_succ]
    cases hp : P n <;> simp [Int.mul_add]
theorem isum_at (x : Int) (j : Nat) : ∀ n, isum n (fun i => if i = j then x else 0) = if j < n then x else 0
  | 0 => rfl
  | n + 1 => by
    simp only [isum]
    rw [isum_at x j n]
    by_cases h1 : j < n
    · rw [if_pos h1, if_neg (by omega), if_pos (by omega)]; omega
    · rw [if_neg h1]
      by_cases h2 : n = j
      · rw [if_pos h2, if_pos (by omega)]; omega
      · rw [if_neg h2, if_neg (by omega)]; rfl
theorem isum_two_le {g : Nat → Int} {n i j : Nat} (hi : i < n) (hj : j < n) (hne : i ≠ j) (h0 : ∀ x, x < n → 0 ≤ g x) : g i + g j ≤ isum n g := by
  have h1 : isum n (fun x => (if x = i then g i else 0) + (if x = j then g j else 0)) ≤ isum n g := isum_le n fun x hx => by
    have := h0 x hx
    by_cases hxi : x = i
    · subst hxi; rw [if_pos rfl, if_neg hne]; omega
    · rw [if_neg hxi]
      by_cases hxj : x = j
      · subst hxj; rw [if_pos rfl]; omega
      · rw [if_neg hxj]; omega
  rw [isum_add, isum_at, isum_at, if_pos hi, if_pos hj] at h1
  exact h1
theorem isum_le_two {g : Nat → Int} {n i j : Nat} (hi : i < n) (hj : j < n) (hne : i ≠ j) (h0 : ∀ x, x < n → x ≠ i → x ≠ j → g x ≤ 0) : isum n g ≤ g i + g j := by
  have h1 : isum n g ≤ isum n (fun x => (if x = i then g i else 0) + (if x = j then g j else 0)) := isum_le n fun x hx => by
    by_cases hxi : x = i
    · subst hxi; rw [if_pos rfl, if_neg hne]; omega
    · rw [if_neg hxi]
      by_cases hxj : x = j
      · subst hxj; rw [if_pos rfl]; omega
      · rw [if_neg hxj]; exact h0 x hx hxi hxj
  rw [isum_add, isum_at, isum_at, if_pos hi, if_pos hj] at h1
  exact h1
/-- Tails, counted point by point. -/
theorem isum_count {n : Nat} (V : Int → Bool) : ∀ (t : List Int), (∀ x ∈ t, 0 ≤ x ∧ x < n) → isum n (fun i => if V (i : Int) = true then (t.count (i : Int) : Int) else 0) = t.countP V
  | [], _ => by
    rw [isum_congr (h := fun _ => 0) n (fun i _ => by simp), isum_zero]; rfl
  | x :: t, h => by
    have ih := isum_count V t (fun y hy => h y (List.mem_cons_of_mem _ hy))
    obtain ⟨h1, h2⟩ := h x (List.mem_cons_self ..)
    have e : ∀ i, i < n → (if V (i : Int) = true then ((x :: t).count (i : Int) : Int) else 0) = (if V (i : Int) = true then (t.count (i : Int) : Int) else 0) + (if i = x.toNat then (if V x = true then 1 else 0) else 0) := by
      intro i _
      rw [List.count_cons]
      by_cases hi : i = x.toNat
      · have : x = (i : Int) := by omega
        subst this
        rw [if_pos hi]
        by_cases hv : V (i : Int) = true <;> simp [hv]
      · have : ¬ x = (i : Int) := by omega
        rw [if_neg hi]
        by_cases hv : V (i : Int) = true <;> simp [hv, this]
    rw [isum_congr n e, isum_add, ih, isum_at, if_pos (by omega), List.countP_cons]
    by_cases hv : V x = true <;> simp [hv]

theorem cnt_shift (m : Nat) (P : Nat → Bool) : cnt (m + 1) P = (P 0).toNat + cnt m (fun i => P (i + 1)) := by
  induction m with
  | zero => rw [cnt_succ, cnt_zero, cnt_zero]; omega
  | succ m ih => rw [cnt_succ, ih, cnt_succ m (fun i => P (i + 1))]; omega
theorem countP_cnt {α : Type} (d : α) (P : α → Bool) : ∀ l : List α, l.countP P = cnt l.length (fun j => P (l.getD j d))
  | [] => rfl
  | x :: l => by
    rw [List.countP_cons, countP_cnt d P l, List.length_cons, cnt_shift]
    simp only [List.getD_cons_zero, List.getD_cons_succ]
    cases P x <;> simp <;> omega

def inB (V : Int → Bool) (x : Int × Int) : Bool := V x.1 && V x.2
def exs (xs : List (Int × Int)) (i : Nat) : Int × Int := xs.getD i default
def memS (pl : List Int) (i : Nat) : Bool := decide ((i : Int) ∈ pl)
/-- An ascending list of places, counted. -/
theorem cnt_memS {m : Nat} (Q : Nat → Bool) : ∀ (pl : List Int), pl.Nodup → (∀ z ∈ pl, 0 ≤ z ∧ z < m) → cnt m (fun i => memS pl i && Q i) = pl.countP (fun z => Q z.toNat)
  | [], _, _ => by
    rw [cnt_congr (Q := fun _ => false) (fun i _ => by simp [memS]), cnt_ff]; rfl
  | z :: pl, hn, h => by
    rw [List.nodup_cons] at hn
    have ih := cnt_memS Q pl hn.2 (fun y hy => h y (List.mem_cons_of_mem _ hy))
    obtain ⟨h1, h2⟩ := h z (List.mem_cons_self ..)
    rw [List.countP_cons, ← ih]
    have ez : ((z.toNat : Nat) : Int) = z := by omega
    cases hq : Q z.toNat with
    | true =>
      rw [if_pos rfl]
      refine cnt_set (j := z.toNat) (by omega) ?_ ?_ fun i _ hi => ?_
      · simp only [memS, ez, hn.1, decide_false, Bool.false_and]
      · simp [memS, ez, hq]
      · have : ¬ (i : Int) = z := by omega
        simp [memS, this]
    | false =>
      rw [if_neg (by simp)]
      refine cnt_congr fun i _ => ?_
      by_cases hi : i = z.toNat
      · subst hi; simp [hq]
      · have : ¬ (i : Int) = z := by omega
        simp [memS, this]

section
variable {n k l : Nat} {xs : List (Int × Int)} {p : PS}

theorem asc_lt (hp : okP n (k : Int) xs p) : ∀ (j i : Nat), i < j → j < p.pl.length → p.pl.getD i default < p.pl.getD j default
  | 0, i, h, _ => by omega
  | j + 1, i, h, hj => by
    have h1 := (hp.asc (j + 1) hj).2.2 (by omega)
    rw [Nat.add_sub_cancel] at h1
    rcases Nat.lt_succ_iff_lt_or_eq.1 h with hh | hh
    · have := asc_lt hp j i hh (by omega)
      omega
    · subst hh; exact h1
theorem pl_nodup (hp : okP n (k : Int) xs p) : p.pl.Nodup := by
  rw [List.nodup_iff_pairwise_ne, List.pairwise_iff_getElem]
  intro i j hi hj hij
  have := asc_lt hp j i hij hj
  simp [hi, hj] at this
  omega
theorem pl_mem (hp : okP n (k : Int) xs p) : ∀ z ∈ p.pl, 0 ≤ z ∧ z < xs.length := by
  intro z hz
  obtain ⟨j, hj, rfl⟩ := mem_getD default hz
  exact ⟨(hp.asc j hj).1, (hp.asc j hj).2.1⟩
/-- What the placed bars span. -/
theorem sp_pl (hp : okP n (k : Int) xs p) (V : Int → Bool) : sp xs.length (exs xs) V (memS p.pl) = cnt p.pl.length (fun j => inB V (brP xs p.pl j)) := by
  unfold sp
  rw [cnt_memS (inV (exs xs) V) p.pl (pl_nodup hp) (pl_mem hp), countP_cnt default]
  rfl
theorem cnt_pl (hp : okP n (k : Int) xs p) : cnt xs.length (memS p.pl) = p.pl.length := by
  have := cnt_memS (m := xs.length) (fun _ => true) p.pl (pl_nodup hp) (pl_mem hp)
  simpa using this
theorem tails_in (hp : okP n (k : Int) xs p) : ∀ x ∈ p.t, 0 ≤ x ∧ x < n := by
  intro x hx
  obtain ⟨j, hj, rfl⟩ := mem_getD default hx
  have := hp.pv.oth (j := j) (by rw [← hp.pv.tl]; exact hj)
  exact ⟨this.2.2.1, this.2.2.2.1⟩
/-- Pebbles and tails add up. -/
theorem pebbles_sum (hp : okP n (k : Int) xs p) (V : Int → Bool) : isum n (fun i => if V (i : Int) = true then gI p.f (i : Int) else 0) + (p.t.countP V : Int) = (k : Int) * sz n V := by
  rw [← isum_count V p.t (tails_in hp), ← isum_add]
  unfold sz
  rw [← isum_const (k : Int) (fun v => V (v : Int)) n]
  refine isum_congr n fun i hi => ?_
  by_cases hv : V (i : Int) = true
  · simp only [hv, if_true]; exact hp.sum i (by omega) (by omega)
  · simp only [hv]; rfl
theorem span_le (hp : okP n (k : Int) xs p) (V : Int → Bool) : sp xs.length (exs xs) V (memS p.pl) ≤ p.t.countP V := by
  rw [sp_pl hp, countP_cnt default V p.t, hp.pv.tl]
  refine cnt_mono fun j hj h => ?_
  simp only [inB, Bool.and_eq_true] at h
  rcases (hp.pv.ok j hj).2.2.2 with ht | ht <;> (rw [ht]; first | exact h.1 | exact h.2)
theorem span_eq (hp : okP n (k : Int) xs p) (V : Int → Bool) (hc : ∀ j, j < p.pl.length → V (p.t.getD j default) = true → V (othB (brP xs p.pl j) (p.t.getD j default)) = true) : p.t.countP V ≤ sp xs.length (exs xs) V (memS p.pl) := by
  rw [sp_pl hp, countP_cnt default V p.t, hp.pv.tl]
  refine cnt_mono fun j hj h => ?_
  have h2 := hc j hj h
  have hb := (hp.pv.ok j hj).2.2.2
  simp only [inB, Bool.and_eq_true]
  unfold othB at h2
  rcases hb with ht | ht
  · rw [ht] at h h2
    rw [show (brP xs p.pl j).1 + (brP xs p.pl j).2 - (brP xs p.pl j).1 = (brP xs p.pl j).2 by omega] at h2
    exact ⟨h, h2⟩
  · rw [ht] at h h2
    rw [show (brP xs p.pl j).1 + (brP xs p.pl j).2 - (brP xs p.pl j).2 = (brP xs p.pl j).1 by omega] at h2
    exact ⟨h2, h⟩

/-- The game's theorem. -/
theorem game (_hl : l < 2 * k) (hE : GoodE xs.length n (exs xs)) (hp : okP n (k : Int) xs p) {e : Nat} (he : e < xs.length) (hS : memS p.pl e = false) (hI : Ind xs.length n k l (exs xs) (memS p.pl)) {r : Nat} (hr : (l : Int) + 1 < r) :
    (gathP n xs (exs xs e).1 (exs xs e).2 (l + 1) r p).2 = true ↔ Ind xs.length n k l (exs xs) (addS (memS p.pl) e) := by
  obtain ⟨b1, b2, b3⟩ := hE e he
  have ha : 0 ≤ (exs xs e).1 ∧ (exs xs e).1 < n := by omega
  have hb : 0 ≤ (exs xs e).2 ∧ (exs xs e).2 < n := by omega
  have hpa := hp.pos _ ha.1 ha.2
  have hpb := hp.pos _ hb.1 hb.2
  obtain ⟨g1, g2, g3, g4⟩ := gathP_spec (want := (l : Int) + 1) ha hb (by omega) r p hp (by omega)
  generalize gathP n xs (exs xs e).1 (exs xs e).2 (l + 1) r p = G at *
  have na : (((exs xs e).1.toNat : Nat) : Int) = (exs xs e).1 := by omega
  have nb : (((exs xs e).2.toNat : Nat) : Int) = (exs xs e).2 := by omega
  constructor
  · intro hG V hpos
    have hw := g3 hG
    cases hV : inV (exs xs) V e with
    | false => rw [sp_add_out hV] at hpos ⊢; exact hI V hpos
    | true =>
      rw [sp_add_in he hS hV]
      have h1 := span_le g1 V
      have h2 := pebbles_sum g1 V
      rw [g2] at h1
      simp only [inV, Bool.and_eq_true] at hV
      have h3 := isum_two_le (g := fun i => if V (i : Int) = true then gI G.1.f (i : Int) else 0) (n := n) (i := (exs xs e).1.toNat) (j := (exs xs e).2.toNat) (by omega) (by omega) (by omega) (fun x hx => by
        show 0 ≤ if V (x : Int) = true then gI G.1.f (x : Int) else 0
        split
        · exact g1.pos x (by omega) (by omega)
        · omega)
      simp only [na, nb, hV.1, hV.2, if_true] at h3
      have h4 : ((k * sz n V : Nat) : Int) = (k : Int) * (sz n V : Int) := by simp
      omega
  · intro hind
    cases hG : G.2 with
    | true => rfl
    | false =>
      exfalso
      obtain ⟨hw, f1, f2⟩ := g4 hG (by omega)
      obtain ⟨V1, a1, a2, a3, a4⟩ := findP_none g1 ha f1
      obtain ⟨V2, c1, c2, c3, c4⟩ := findP_none g1 hb f2
      have hVin : inV (exs xs) (cupV V1 V2) e = true := by simp [inV, cupV, a1, c1]
      have h1 := span_eq g1 (cupV V1 V2) (fun j hj hv => by
        simp only [cupV, Bool.or_eq_true] at hv ⊢
        rcases hv with hv | hv
        · exact .inl (a4 j hj hv)
        · exact .inr (c4 j hj hv))
      have h2 := pebbles_sum g1 (cupV V1 V2)
      rw [g2] at h1
      have h3 := isum_le_two (g := fun i => if cupV V1 V2 (i : Int) = true then gI G.1.f (i : Int) else 0) (n := n) (i := (exs xs e).1.toNat) (j := (exs xs e).2.toNat) (by omega) (by omega) (by omega) (fun x hx hxa hxb => by
        show (if cupV V1 V2 (x : Int) = true then gI G.1.f (x : Int) else 0) ≤ 0
        split
        · rename_i hv
          simp only [cupV, Bool.or_eq_true] at hv
          rcases hv with hv | hv
          · rcases a3 x hv (by omega) with hh | hh
            · omega
            · exact hh
          · rcases c3 x hv (by omega) with hh | hh
            · omega
            · exact hh
        · exact Int.le_refl _)
      have v1 : cupV V1 V2 (exs xs e).1 = true := by simp [cupV, a1]
      have v2 : cupV V1 V2 (exs xs e).2 = true := by simp [cupV, c1]
      simp only [na, nb, v1, v2, if_true] at h3
      have h5 := sp_add_in (S := memS p.pl) (V := cupV V1 V2) he hS hVin
      have h6 := hind (cupV V1 V2) (by omega)
      have h4 : ((k * sz n (cupV V1 V2) : Nat) : Int) = (k : Int) * (sz n (cupV V1 V2) : Int) := by simp
      omega
end

/-! ### A bar placed; all bars, one after the other -/
def tailP (p : PS) (x : Int × Int) : Int := if gI p.f x.1 = 0 then x.2 else x.1
def putP (p : PS) (x : Int × Int) (e : Nat) : PS := ⟨p.f.set (tailP p x).toNat (gI p.f (tailP p x) - 1), p.t ++ [tailP p x], p.pl ++ [(e : Int)]⟩
def gatP (n : Nat) (xs : List (Int × Int)) (l : Int) (p : PS) (e : Nat) : PS × Bool := gathP n xs (exs xs e).1 (exs xs e).2 (l + 1) 8 p
def placeP (n : Nat) (xs : List (Int × Int)) (l : Int) (p : PS) (e : Nat) : Option PS := if (gatP n xs l p e).2 = true then some (putP (gatP n xs l p e).1 (exs xs e) e) else none
def playP (n : Nat) (xs : List (Int × Int)) (k l : Int) : Nat → PS
  | 0 => ⟨List.replicate n k, [], []⟩
  | e + 1 => (placeP n xs l (playP n xs k l e) e).getD (playP n xs k l e)

section
variable {n k l : Nat} {xs : List (Int × Int)} {p : PS}
theorem gI_rep (n : Nat) (k v : Int) (h0 : 0 ≤ v) (hv : v < n) : gI (List.replicate n k) v = k := by
  unfold gI
  rw [List.getD_eq_getElem?_getD, List.getElem?_replicate, if_pos (by omega)]; rfl
theorem okP_start (hk : 0 ≤ (k : Int)) : okP n (k : Int) xs ⟨List.replicate n (k : Int), [], []⟩ := by
  refine ⟨by simp, ⟨rfl, fun j hj => by simp at hj⟩, fun v h0 hv => ?_, fun v h0 hv => ?_, fun j hj => by simp at hj⟩
  · show 0 ≤ gI (List.replicate n (k : Int)) v
    rw [gI_rep n _ v h0 hv]; exact hk
  · show gI (List.replicate n (k : Int)) v + _ = _
    rw [gI_rep n _ v h0 hv]; simp
theorem placeP_ok {k : Int} (hE : GoodE xs.length n (exs xs)) {l : Int} (hl : 0 ≤ l ∧ l + 1 ≤ 7) (hp : okP n k xs p) {e : Nat} (he : e < xs.length) (hlt : ∀ z ∈ p.pl, z < e) {y : PS} (h : placeP n xs l p e = some y) :
    okP n k xs y ∧ y.pl = p.pl ++ [(e : Int)] := by
  unfold placeP at h
  split at h
  · rename_i hG
    injection h with h
    subst h
    obtain ⟨b1, b2, b3⟩ := hE e he
    have hpa := hp.pos (exs xs e).1 (by omega) (by omega)
    have hpb := hp.pos (exs xs e).2 (by omega) (by omega)
    obtain ⟨g1, g2, g3, _⟩ := gathP_spec (want := l + 1) (a := (exs xs e).1) (b := (exs xs e).2) (by omega) (by omega) (by omega) 8 p hp (by omega)
    have g3 := g3 hG
    unfold gatP
    generalize gathP n xs (exs xs e).1 (exs xs e).2 (l + 1) 8 p = G at *
    have q1 := g1.pos (exs xs e).1 (by omega) (by omega)
    have q2 := g1.pos (exs xs e).2 (by omega) (by omega)
    have ht : 0 ≤ tailP G.1 (exs xs e) ∧ tailP G.1 (exs xs e) < n ∧ 0 < gI G.1.f (tailP G.1 (exs xs e)) ∧ (tailP G.1 (exs xs e) = (exs xs e).1 ∨ tailP G.1 (exs xs e) = (exs xs e).2) := by
      unfold tailP
      split
      · exact ⟨by omega, by omega, by omega, .inr rfl⟩
      · exact ⟨by omega, by omega, by omega, .inl rfl⟩
    have hfl := g1.fl
    have htl := g1.pv.tl
    refine ⟨⟨by simp [putP, hfl], ⟨by simp [putP, htl], fun j hj => ?_⟩, fun v h0 hv => ?_, fun v h0 hv => ?_, fun j hj => ?_⟩, by simp [putP, g2]⟩
    · simp only [putP, List.length_append, List.length_singleton] at hj
      unfold putP brP
      simp only
      by_cases hjl : j < G.1.pl.length
      · rw [getD_app_left _ _ _ _ hjl, getD_app_left _ _ _ _ (by omega)]
        exact g1.pv.ok j hjl
      · have : j = G.1.pl.length := by omega
        subst this
        have e1 : (G.1.t ++ [tailP G.1 (exs xs e)]).getD G.1.pl.length default = tailP G.1 (exs xs e) := by rw [← htl]; exact getD_app_here _ _ _
        rw [getD_app_here, e1]
        show 0 ≤ (exs xs e).1 ∧ _
        exact ⟨b1, b2, b3, ht.2.2.2⟩
    · unfold putP
      simp only
      by_cases hv' : tailP G.1 (exs xs e) = v
      · rw [hv', gI_set_eq _ _ _ (by omega)]
        rw [hv'] at ht; omega
      · rw [gI_set_ne _ _ _ _ ht.1 h0 hv']
        exact g1.pos v h0 hv
    · unfold putP
      simp only
      have hs := g1.sum v h0 hv
      rw [List.count_append]
      by_cases hv' : tailP G.1 (exs xs e) = v
      · rw [hv', gI_set_eq _ _ _ (by omega)]
        simp; omega
      · rw [gI_set_ne _ _ _ _ ht.1 h0 hv']
        have : List.count v [tailP G.1 (exs xs e)] = 0 := by simp [hv']
        rw [this]; omega
    · simp only [putP, List.length_append, List.length_singleton] at hj
      unfold putP
      simp only
      by_cases hjl : j < G.1.pl.length
      · rw [getD_app_left _ _ _ _ hjl, getD_app_left _ _ _ _ (by omega)]
        exact g1.asc j hjl
      · have : j = G.1.pl.length := by omega
        subst this
        rw [getD_app_here]
        refine ⟨by omega, by omega, fun h0 => ?_⟩
        rw [getD_app_left _ _ _ _ (by omega)]
        refine hlt _ ?_
        rw [← g2]
        exact getD_mem' _ (by omega)
  · cases h

/-- What is accepted, one bar after the other. -/
noncomputable def accS (m n k l : Nat) (E : Nat → Int × Int) : Nat → Nat → Bool
  | 0 => fun _ => false
  | e + 1 => @ite _ (Ind m n k l E (addS (accS m n k l E e) e)) (Classical.propDecidable _) (addS (accS m n k l E e) e) (accS m n k l E e)
theorem accS_lt {m : Nat} {E : Nat → Int × Int} : ∀ (e i : Nat), accS m n k l E e i = true → i < e
  | 0, i, h => by cases h
  | e + 1, i, h => by
    unfold accS at h
    split at h
    · simp only [addS, Bool.or_eq_true, beq_iff_eq] at h
      rcases h with h | h
      · have := accS_lt e i h; omega
      · omega
    · have := accS_lt e i h; omega
theorem accS_ind {m : Nat} {E : Nat → Int × Int} : ∀ (e : Nat), Ind m n k l E (accS m n k l E e)
  | 0 => fun V h => by
    have : sp m E V (accS m n k l E 0) = 0 := by
      unfold sp
      rw [cnt_congr (Q := fun _ => false) (fun i _ => by simp [accS]), cnt_ff]
    omega
  | e + 1 => by
    unfold accS
    split
    · assumption
    · exact accS_ind e
theorem accS_step {m : Nat} {E : Nat → Int × Int} (e i : Nat) (h : accS m n k l E e i = true) : accS m n k l E (e + 1) i = true := by
  unfold accS
  split
  · simp [addS, h]
  · exact h
theorem accS_mono {m : Nat} {E : Nat → Int × Int} (e : Nat) : ∀ (d i : Nat), accS m n k l E e i = true → accS m n k l E (e + d) i = true
  | 0, _i, h => h
  | d + 1, i, h => accS_step (e + d) i (accS_mono e d i h)
/-- The greatest number. -/
theorem accS_max {m : Nat} {E : Nat → Int × Int} (hl : l < 2 * k) (hE : GoodE m n E) {J : Nat → Bool} (hJ : Ind m n k l E J) : cnt m J ≤ cnt m (accS m n k l E m) := by
  apply Classical.byContradiction
  intro hlt
  obtain ⟨e, he, _, hAe, hind⟩ := augment hl hE _ _ J rfl (accS_ind m) hJ (by omega)
  have hsub : Ind m n k l E (addS (accS m n k l E e) e) := hind.sub fun i _ hi => by
    simp only [addS, Bool.or_eq_true] at hi ⊢
    rcases hi with hi | hi
    · have := accS_mono e (m - e) i hi
      rw [show e + (m - e) = m by omega] at this
      exact .inl this
    · exact .inr hi
  have h1 : accS m n k l E (e + 1) e = true := by
    unfold accS
    rw [if_pos hsub]
    simp [addS]
  have := accS_mono (e + 1) (m - (e + 1)) e h1
  rw [show e + 1 + (m - (e + 1)) = m by omega] at this
  rw [this] at hAe; cases hAe
theorem playP_spec (hl : l < 2 * k) (hk : k ≤ 3) (hE : GoodE xs.length n (exs xs)) : ∀ e, e ≤ xs.length →
    okP n (k : Int) xs (playP n xs k l e) ∧ (∀ i, memS (playP n xs k l e).pl i = accS xs.length n k l (exs xs) e i) ∧ ∀ z ∈ (playP n xs k l e).pl, z < e
  | 0, _ => ⟨okP_start (by omega), fun i => by simp [playP, memS, accS], fun z hz => by simp [playP] at hz⟩
  | e + 1, he => by
    obtain ⟨h1, h2, h3⟩ := playP_spec hl hk hE e (by omega)
    have hS : memS (playP n xs k l e).pl e = false := by
      unfold memS
      exact decide_eq_false fun hm => by have := h3 _ hm; omega
    have hfun : memS (playP n xs k l e).pl = accS xs.length n k l (exs xs) e := funext h2
    have hg := game hl hE h1 (e := e) (by omega) hS (by rw [hfun]; exact accS_ind e) (r := 8) (by omega)
    rw [hfun] at hg
    unfold playP
    cases hpl : placeP n xs l (playP n xs k l e) e with
    | some y =>
      obtain ⟨o1, o2⟩ := placeP_ok hE (by omega) h1 (by omega) h3 hpl
      have hG : (gatP n xs l (playP n xs k l e) e).2 = true := by
        unfold placeP at hpl
        split at hpl
        · assumption
        · cases hpl
      refine ⟨o1, fun i => ?_, fun z hz => ?_⟩
      · simp only [Option.getD_some, o2]
        unfold accS
        rw [if_pos (hg.1 hG)]
        unfold addS
        rw [← h2 i]
        unfold memS
        by_cases hi : i = e
        · subst hi; simp
        · have : ¬ (i : Int) = (e : Int) := by omega
          simp [hi, this]
      · simp only [Option.getD_some, o2, List.mem_append, List.mem_singleton] at hz
        rcases hz with hz | hz
        · have := h3 z hz; omega
        · omega
    | none =>
      have hG : ¬ (gatP n xs l (playP n xs k l e) e).2 = true := by
        unfold placeP at hpl
        split at hpl
        · cases hpl
        · assumption
      refine ⟨h1, fun i => ?_, fun z hz => ?_⟩
      · simp only [Option.getD_none]
        unfold accS
        rw [if_neg (fun hh => hG (hg.2 hh))]
        exact h2 i
      · have := h3 z hz; omega
end
end Go.Proofs.Ytmnaohimnladnaa
