/- Plain mathematics of counting on graphs: sparse sets of bars and exchange among them. No program in sight. -/
import Derived.Test.YtmkalfofmodbdaaMh
namespace Go.Proofs.Ytmkalfofmodbdaa

/-! ### Counting over the first numbers -/
def cnt (m : Nat) (P : Nat → Bool) : Nat := (List.range m).countP P
theorem cnt_zero (P : Nat → Bool) : cnt 0 P = 0 := rfl
theorem cnt_succ (m : Nat) (P : Nat → Bool) : cnt (m + 1) P = cnt m P + (P m).toNat := by
  unfold cnt
  rw [List.range_succ, List.countP_append, List.countP_singleton]
  cases P m <;> rfl
theorem cnt_add {P Q R T : Nat → Bool} : ∀ m, (∀ i, i < m → (P i).toNat + (Q i).toNat ≤ (R i).toNat + (T i).toNat) → cnt m P + cnt m Q ≤ cnt m R + cnt m T
  | 0, _ => Nat.le_refl _
  | m + 1, h => by
    have h1 := cnt_add m (fun i hi => h i (by omega))
    have h2 := h m (by omega)
    rw [cnt_succ, cnt_succ, cnt_succ, cnt_succ]; omega
theorem cnt_ff (m : Nat) : cnt m (fun _ => false) = 0 := by
  induction m with
  | zero => rfl
  | succ m ih => rw [cnt_succ, ih]; rfl
theorem cnt_mono {P Q : Nat → Bool} {m : Nat} (h : ∀ i, i < m → P i = true → Q i = true) : cnt m P ≤ cnt m Q := by
  have := cnt_add (P := P) (Q := fun _ => false) (R := Q) (T := fun _ => false) m (fun i hi => by
    have := h i hi
    cases hp : P i with
    | false => simp
    | true => rw [this hp]; simp)
  rw [cnt_ff] at this; omega
theorem cnt_congr {P Q : Nat → Bool} {m : Nat} (h : ∀ i, i < m → P i = Q i) : cnt m P = cnt m Q :=
  Nat.le_antisymm (cnt_mono fun i hi hp => by rw [← h i hi]; exact hp) (cnt_mono fun i hi hp => by rw [h i hi]; exact hp)
theorem cnt_le (m : Nat) (P : Nat → Bool) : cnt m P ≤ m := by
  unfold cnt
  have := List.countP_le_length (p := P) (l := List.range m)
  simpa using this
theorem cnt_pos {P : Nat → Bool} {m : Nat} (h : 0 < cnt m P) : ∃ i, i < m ∧ P i = true := by
  unfold cnt at h
  obtain ⟨i, hi, hp⟩ := List.countP_pos_iff.1 h
  exact ⟨i, by simpa using hi, hp⟩
theorem cnt_one {P : Nat → Bool} {m i : Nat} (hi : i < m) (hp : P i = true) : 0 < cnt m P := by
  unfold cnt
  exact List.countP_pos_iff.2 ⟨i, by simpa using hi, hp⟩
/-- One more. -/
theorem cnt_set {P Q : Nat → Bool} {m j : Nat} (hj : j < m) (hP : P j = false) (hQ : Q j = true) (h : ∀ i, i < m → i ≠ j → Q i = P i) : cnt m Q = cnt m P + 1 := by
  induction m with
  | zero => omega
  | succ m ih =>
    rw [cnt_succ, cnt_succ]
    by_cases hjm : j = m
    · subst hjm
      have : cnt j Q = cnt j P := cnt_congr fun i hi => h i (by omega) (by omega)
      rw [this, hP, hQ]; rfl
    · have h1 := ih (by omega) (fun i hi hne => h i (by omega) hne)
      rw [h1, h m (by omega) (fun hh => hjm hh.symm)]; omega
theorem cnt_two {P : Nat → Bool} {m i j : Nat} (hi : i < m) (hj : j < m) (hne : i ≠ j) (hpi : P i = true) (hpj : P j = true) : 2 ≤ cnt m P := by
  have h1 : cnt m (fun x => P x && x != j) + 1 = cnt m P := (cnt_set (P := fun x => P x && x != j) (Q := P) hj (by simp) hpj (fun x _ hx => by simp [hx])).symm
  have h2 : 0 < cnt m (fun x => P x && x != j) := cnt_one hi (by simp [hpi, hne])
  omega
/-- Contained and not less: the same. -/
theorem cnt_same {P Q : Nat → Bool} {m : Nat} (h : ∀ i, i < m → P i = true → Q i = true) (hc : cnt m Q ≤ cnt m P) : ∀ i, i < m → Q i = true → P i = true := by
  intro i hi hq
  cases hp : P i with
  | true => rfl
  | false =>
    have h1 : cnt m (fun x => P x || x == i) = cnt m P + 1 := cnt_set hi hp (by simp) (fun x _ hx => by simp [hx])
    have h2 : cnt m (fun x => P x || x == i) ≤ cnt m Q := cnt_mono fun x hx hpx => by
      simp only [Bool.or_eq_true, beq_iff_eq] at hpx
      rcases hpx with hpx | rfl
      · exact h x hx hpx
      · exact hq
    omega

theorem nbeq {i j : Nat} (h : i ≠ j) : (i == j) = false := by simpa using h

/-! ### Sets of points, sets of bars -/
def sz (n : Nat) (V : Int → Bool) : Nat := cnt n fun v => V (v : Int)
def inV (E : Nat → Int × Int) (V : Int → Bool) (i : Nat) : Bool := V (E i).1 && V (E i).2
def sp (m : Nat) (E : Nat → Int × Int) (V : Int → Bool) (S : Nat → Bool) : Nat := cnt m fun i => S i && inV E V i
/-- No set of points spans too many. -/
def Ind (m n k l : Nat) (E : Nat → Int × Int) (S : Nat → Bool) : Prop := ∀ V : Int → Bool, 0 < sp m E V S → sp m E V S + l ≤ k * sz n V
def GoodE (m n : Nat) (E : Nat → Int × Int) : Prop := ∀ i, i < m → 0 ≤ (E i).1 ∧ (E i).1 < (E i).2 ∧ (E i).2 < n
def addS (S : Nat → Bool) (e : Nat) : Nat → Bool := fun i => S i || i == e
def delS (S : Nat → Bool) (e : Nat) : Nat → Bool := fun i => S i && i != e
def capV (A B : Int → Bool) : Int → Bool := fun v => A v && B v
def cupV (A B : Int → Bool) : Int → Bool := fun v => A v || B v

section
variable {m n k l : Nat} {E : Nat → Int × Int}

theorem sz_mod (A B : Int → Bool) : sz n (cupV A B) + sz n (capV A B) = sz n A + sz n B := by
  unfold sz cupV capV
  exact Nat.le_antisymm (cnt_add n fun i _ => by cases A i <;> cases B i <;> decide) (cnt_add n fun i _ => by cases A i <;> cases B i <;> decide)
theorem sp_super (A B : Int → Bool) (S : Nat → Bool) : sp m E A S + sp m E B S ≤ sp m E (cupV A B) S + sp m E (capV A B) S := by
  unfold sp inV cupV capV
  refine cnt_add m fun i _ => ?_
  cases S i <;> cases A (E i).1 <;> cases A (E i).2 <;> cases B (E i).1 <;> cases B (E i).2 <;> decide
theorem sz_two (hE : GoodE m n E) {V : Int → Bool} {i : Nat} (hi : i < m) (h : inV E V i = true) : 2 ≤ sz n V := by
  obtain ⟨h1, h2, h3⟩ := hE i hi
  simp only [inV, Bool.and_eq_true] at h
  have e1 : (((E i).1.toNat : Nat) : Int) = (E i).1 := by omega
  have e2 : (((E i).2.toNat : Nat) : Int) = (E i).2 := by omega
  exact cnt_two (P := fun v : Nat => V (v : Int)) (i := (E i).1.toNat) (j := (E i).2.toNat) (by omega) (by omega) (by omega) (by simp only [e1]; exact h.1) (by simp only [e2]; exact h.2)
theorem sp_pos {V : Int → Bool} {S : Nat → Bool} (h : 0 < sp m E V S) : ∃ i, i < m ∧ S i = true ∧ inV E V i = true := by
  obtain ⟨i, hi, hp⟩ := cnt_pos h
  simp only [Bool.and_eq_true] at hp
  exact ⟨i, hi, hp.1, hp.2⟩
theorem sp_mono {V V' : Int → Bool} {S S' : Nat → Bool} (h : ∀ i, i < m → S i = true → inV E V i = true → S' i = true ∧ inV E V' i = true) : sp m E V S ≤ sp m E V' S' :=
  cnt_mono fun i hi hp => by
    simp only [Bool.and_eq_true] at hp ⊢
    exact h i hi hp.1 hp.2
theorem Ind.sub {S S' : Nat → Bool} (h : Ind m n k l E S) (hs : ∀ i, i < m → S' i = true → S i = true) : Ind m n k l E S' := by
  intro V hp
  have h1 : sp m E V S' ≤ sp m E V S := sp_mono fun i hi hS hV => ⟨hs i hi hS, hV⟩
  have := h V (by omega)
  omega
theorem Ind.two (hl : l < 2 * k) {S : Nat → Bool} (h : Ind m n k l E S) {V : Int → Bool} (hV : 2 ≤ sz n V) : sp m E V S + l ≤ k * sz n V := by
  rcases Nat.eq_zero_or_pos (sp m E V S) with h0 | h0
  · have : k * 2 ≤ k * sz n V := Nat.mul_le_mul_left _ hV
    omega
  · exact h V h0
theorem sp_add_in {S : Nat → Bool} {e : Nat} {V : Int → Bool} (he : e < m) (hn : S e = false) (hV : inV E V e = true) : sp m E V (addS S e) = sp m E V S + 1 :=
  cnt_set he (by simp [hn]) (by simp [addS, hV]) fun i _ hi => by simp [addS, nbeq hi]
theorem sp_add_out {S : Nat → Bool} {e : Nat} {V : Int → Bool} (hV : inV E V e = false) : sp m E V (addS S e) = sp m E V S :=
  cnt_congr fun i _ => by
    by_cases hi : i = e
    · subst hi; simp [hV]
    · simp [addS, nbeq hi]
theorem sp_del_in {S : Nat → Bool} {e : Nat} {V : Int → Bool} (he : e < m) (hn : S e = true) (hV : inV E V e = true) : sp m E V S = sp m E V (delS S e) + 1 :=
  cnt_set he (by simp [delS]) (by simp [hn, hV]) fun i _ hi => by simp [delS, nbeq hi, bne]
theorem sp_del_out {S : Nat → Bool} {e : Nat} {V : Int → Bool} (hV : inV E V e = false) : sp m E V (delS S e) = sp m E V S :=
  cnt_congr fun i _ => by
    by_cases hi : i = e
    · subst hi; simp [hV]
    · simp [delS, nbeq hi, bne]

/-- As many bars as a set of points may span. -/
def Tight (m n k l : Nat) (E : Nat → Int × Int) (S : Nat → Bool) (V : Int → Bool) : Prop := 2 ≤ sz n V ∧ sp m E V S + l = k * sz n V

theorem Tight.join (hl : l < 2 * k) {S : Nat → Bool} (hI : Ind m n k l E S) {A B : Int → Bool} (hA : Tight m n k l E S A) (hB : Tight m n k l E S B) (h2 : 2 ≤ sz n (capV A B)) : Tight m n k l E S (cupV A B) ∧ Tight m n k l E S (capV A B) := by
  have h3 : sz n A ≤ sz n (cupV A B) := cnt_mono fun i _ h => by simp [cupV, h]
  have i1 := hI.two hl (V := cupV A B) (by have := hA.1; omega)
  have i2 := hI.two hl (V := capV A B) h2
  have hs := sp_super (m := m) (E := E) A B S
  have hm : k * sz n (cupV A B) + k * sz n (capV A B) = k * sz n A + k * sz n B := by rw [← Nat.mul_add, ← Nat.mul_add, sz_mod]
  have a1 := hA.2
  have b1 := hB.2
  exact ⟨⟨by have := hA.1; omega, by omega⟩, h2, by omega⟩
/-- What keeps a bar out: a tight set around it. -/
theorem blocked (hl : l < 2 * k) (hE : GoodE m n E) {S : Nat → Bool} (hI : Ind m n k l E S) {e : Nat} (he : e < m) (hn : S e = false) (hd : ¬ Ind m n k l E (addS S e)) : ∃ A, Tight m n k l E S A ∧ inV E A e = true := by
  apply Classical.byContradiction
  intro hno
  refine hd fun V hp => ?_
  cases hV : inV E V e with
  | false =>
    rw [sp_add_out hV] at hp ⊢
    exact hI V hp
  | true =>
    rw [sp_add_in he hn hV]
    have h2 := sz_two hE he hV
    have h3 := hI.two hl h2
    rcases Nat.lt_or_ge (sp m E V S + l) (k * sz n V) with h4 | h4
    · omega
    · exact absurd ⟨V, ⟨h2, by omega⟩, hV⟩ hno
theorem tight_blocks {S : Nat → Bool} {A : Int → Bool} (hA : Tight m n k l E S A) {e : Nat} (he : e < m) (hn : S e = false) (hV : inV E A e = true) : ¬ Ind m n k l E (addS S e) := by
  intro h
  have h1 := sp_add_in (S := S) he hn hV
  have := h A (by omega)
  have := hA.2
  omega
/-- The least tight set around a bar. -/
theorem least_tight (hl : l < 2 * k) (hE : GoodE m n E) {S : Nat → Bool} (hI : Ind m n k l E S) {e : Nat} (he : e < m) (hex : ∃ A, Tight m n k l E S A ∧ inV E A e = true) :
    ∃ T, Tight m n k l E S T ∧ inV E T e = true ∧ ∀ A, Tight m n k l E S A → inV E A e = true → ∀ v : Nat, v < n → T (v : Int) = true → A (v : Int) = true := by
  obtain ⟨A, hA, hAe⟩ := hex
  have key : ∀ s A, sz n A = s → Tight m n k l E S A → inV E A e = true → ∃ T, Tight m n k l E S T ∧ inV E T e = true ∧ ∀ A, Tight m n k l E S A → inV E A e = true → sz n T ≤ sz n A := by
    intro s
    induction s using Nat.strongRecOn with
    | _ s ih =>
      intro A hs hA hAe
      by_cases hmin : ∀ B, Tight m n k l E S B → inV E B e = true → sz n A ≤ sz n B
      · exact ⟨A, hA, hAe, hmin⟩
      · simp only [Classical.not_forall] at hmin
        obtain ⟨B, hB, hBe, hlt⟩ := hmin
        exact ih (sz n B) (by omega) B rfl hB hBe
  obtain ⟨T, hT, hTe, hmin⟩ := key _ A rfl hA hAe
  refine ⟨T, hT, hTe, fun B hB hBe => ?_⟩
  have hce : inV E (capV T B) e = true := by
    simp only [inV, capV, Bool.and_eq_true] at hTe hBe ⊢
    exact ⟨⟨hTe.1, hBe.1⟩, hTe.2, hBe.2⟩
  have hc := (hT.join hl hI hB (sz_two hE he hce)).2
  have h1 := hmin _ hc hce
  have h2 := cnt_same (P := fun v : Nat => capV T B (v : Int)) (Q := fun v : Nat => T (v : Int)) (m := n) (fun i _ h => by simp only [capV, Bool.and_eq_true] at h; exact h.1) h1
  intro v hv hTv
  have := h2 v hv hTv
  simp only [capV, Bool.and_eq_true] at this
  exact this.2
theorem inV_mono (hE : GoodE m n E) {A B : Int → Bool} (h : ∀ v : Nat, v < n → A (v : Int) = true → B (v : Int) = true) {i : Nat} (hi : i < m) (hA : inV E A i = true) : inV E B i = true := by
  obtain ⟨h1, h2, h3⟩ := hE i hi
  simp only [inV, Bool.and_eq_true] at hA ⊢
  have e1 : (((E i).1.toNat : Nat) : Int) = (E i).1 := by omega
  have e2 : (((E i).2.toNat : Nat) : Int) = (E i).2 := by omega
  have a1 := h (E i).1.toNat (by omega) (by rw [e1]; exact hA.1)
  have a2 := h (E i).2.toNat (by omega) (by rw [e2]; exact hA.2)
  rw [e1] at a1
  rw [e2] at a2
  exact ⟨a1, a2⟩
/-- Exchange: a bar of the least tight set goes out, the bar that was kept out comes in. -/
theorem swap_ind (hl : l < 2 * k) (hE : GoodE m n E) {S : Nat → Bool} (hI : Ind m n k l E S) {e f : Nat} (he : e < m) (hf : f < m) (hSe : S e = false) (hSf : S f = true) {T : Int → Bool} (hTf : inV E T f = true)
    (hmin : ∀ A, Tight m n k l E S A → inV E A e = true → ∀ v : Nat, v < n → T (v : Int) = true → A (v : Int) = true) : Ind m n k l E (addS (delS S f) e) := by
  have hne : e ≠ f := fun h => by subst h; rw [hSe] at hSf; cases hSf
  have hD : Ind m n k l E (delS S f) := hI.sub fun i _ h => by simp only [delS, Bool.and_eq_true] at h; exact h.1
  apply Classical.byContradiction
  intro hd
  obtain ⟨A, hA, hAe⟩ := blocked hl hE hD he (by simp [delS, hSe]) hd
  have h1 : sp m E A (delS S f) ≤ sp m E A S := sp_mono fun i _ h hv => by
    simp only [delS, Bool.and_eq_true] at h
    exact ⟨h.1, hv⟩
  have h2 := hI.two hl hA.1
  have h3 := hA.2
  have hAS : Tight m n k l E S A := ⟨hA.1, by omega⟩
  have hAf := inV_mono hE (hmin A hAS hAe) hf hTf
  have h4 := sp_del_in (S := S) hf hSf hAf
  omega
/-- The bars of the least tight set are what the new bar depends on. -/
theorem swap_not {S : Nat → Bool} {e f : Nat} (he : e < m) (hSe : S e = false) {T : Int → Bool} (hT : Tight m n k l E S T) (hTe : inV E T e = true) (hTf : inV E T f = false) : ¬ Ind m n k l E (addS (delS S f) e) := by
  intro h
  have h1 := sp_add_in (S := delS S f) (V := T) he (by simp [delS, hSe]) hTe
  rw [sp_del_out hTf] at h1
  have := h T (by omega)
  have := hT.2
  omega

/-- Of two independent sets of bars the greater one has a bar that goes to the smaller one. -/
theorem augment (hl : l < 2 * k) (hE : GoodE m n E) : ∀ (d : Nat) (I J : Nat → Bool), cnt m (fun i => J i && !I i) = d → Ind m n k l E I → Ind m n k l E J → cnt m I < cnt m J →
    ∃ e, e < m ∧ J e = true ∧ I e = false ∧ Ind m n k l E (addS I e) := by
  intro d
  induction d using Nat.strongRecOn with
  | _ d ih =>
    intro I J hd hI hJ hlt
    apply Classical.byContradiction
    intro hno
    have hdep : ∀ e, e < m → J e = true → I e = false → ¬ Ind m n k l E (addS I e) := fun e h1 h2 h3 h4 => hno ⟨e, h1, h2, h3, h4⟩
    -- some bar of J that is not of I
    obtain ⟨e, he, hJe, hIe⟩ : ∃ e, e < m ∧ J e = true ∧ I e = false := by
      apply Classical.byContradiction
      intro hh
      have : cnt m J ≤ cnt m I := cnt_mono fun i hi hj => by
        cases hi' : I i with
        | true => rfl
        | false => exact absurd ⟨i, hi, hj, hi'⟩ hh
      omega
    obtain ⟨T, hT, hTe, hmin⟩ := least_tight hl hE hI he (blocked hl hE hI he hIe (hdep e he hJe hIe))
    -- some bar of I within T that is not of J
    obtain ⟨f, hf, hIf, hTf, hJf⟩ : ∃ f, f < m ∧ I f = true ∧ inV E T f = true ∧ J f = false := by
      apply Classical.byContradiction
      intro hh
      have h1 : sp m E T (addS I e) ≤ sp m E T J := sp_mono fun i hi h hv => by
        simp only [addS, Bool.or_eq_true, beq_iff_eq] at h
        refine ⟨?_, hv⟩
        rcases h with h | rfl
        · cases hj : J i with
          | true => rfl
          | false => exact absurd ⟨i, hi, h, hv, hj⟩ hh
        · exact hJe
      have h2 := sp_add_in (S := I) he hIe hTe
      have h3 := hJ.two hl hT.1
      have := hT.2
      omega
    have hne : e ≠ f := fun h => by subst h; rw [hIe] at hIf; cases hIf
    have hI' := swap_ind hl hE hI he hf hIe hIf hTf hmin
    have hdf : delS I f e = false := by simp [delS, hIe]
    have hcI : cnt m I = cnt m (delS I f) + 1 := cnt_set hf (by simp [delS]) hIf fun i _ hi => by simp [delS, nbeq hi, bne]
    have hcI' : cnt m (addS (delS I f) e) = cnt m (delS I f) + 1 := cnt_set he hdf (by simp [addS]) fun i _ hi => by simp [addS, nbeq hi]
    have hdd : cnt m (fun i => J i && !(addS (delS I f) e) i) < d := by
      rw [← hd]
      have := cnt_set (P := fun i => J i && !(addS (delS I f) e) i) (Q := fun i => J i && !I i) he (by simp [addS]) (by simp [hJe, hIe]) (fun i _ hi => by
        by_cases hif : i = f
        · subst hif; simp [hJf]
        · simp [addS, delS, nbeq hi, nbeq hif, bne])
      omega
    obtain ⟨e', he', hJe', hIe', hind⟩ := ih _ hdd _ J rfl hI' hJ (by omega)
    have hee' : e' ≠ e := fun h => by subst h; simp [addS] at hIe'
    have hef' : e' ≠ f := fun h => by subst h; rw [hJe'] at hJf; cases hJf
    have hIe'' : I e' = false := by simpa [addS, delS, nbeq hee', nbeq hef', bne] using hIe'
    obtain ⟨T', hT', hTe'⟩ := blocked hl hE hI he' hIe'' (hdep e' he' hJe' hIe'')
    have hsp : ∀ V, inV E V e' = true → sp m E V (addS (addS (delS I f) e) e') = sp m E V (addS (delS I f) e) + 1 := fun V hV => sp_add_in he' hIe' hV
    by_cases hf' : inV E T' f = true
    · -- T and T' share the bar f: their join is tight
      have hcf : inV E (capV T T') f = true := by
        simp only [inV, capV, Bool.and_eq_true] at hTf hf' ⊢
        exact ⟨⟨hTf.1, hf'.1⟩, hTf.2, hf'.2⟩
      have hU := (hT.join hl hI hT' (sz_two hE hf hcf)).1
      have up : ∀ i, inV E T i = true → inV E (cupV T T') i = true := fun i h => by
        simp only [inV, cupV, Bool.and_eq_true, Bool.or_eq_true] at h ⊢; exact ⟨.inl h.1, .inl h.2⟩
      have up' : ∀ i, inV E T' i = true → inV E (cupV T T') i = true := fun i h => by
        simp only [inV, cupV, Bool.and_eq_true, Bool.or_eq_true] at h ⊢; exact ⟨.inr h.1, .inr h.2⟩
      have g1 := hsp _ (up' e' hTe')
      have g2 := sp_add_in (S := delS I f) (V := cupV T T') he hdf (up e hTe)
      have g3 := sp_del_in (S := I) hf hIf (up f hTf)
      have g4 := hind.two hl hU.1
      have := hU.2
      omega
    · have hf'' : inV E T' f = false := by simpa using hf'
      have g1 := hsp _ hTe'
      have g2 : sp m E T' (delS I f) ≤ sp m E T' (addS (delS I f) e) := sp_mono fun i _ h hv => ⟨by simp [addS, h], hv⟩
      rw [sp_del_out hf''] at g2
      have g4 := hind.two hl hT'.1
      have := hT'.2
      omega
end
end Go.Proofs.Ytmkalfofmodbdaa
