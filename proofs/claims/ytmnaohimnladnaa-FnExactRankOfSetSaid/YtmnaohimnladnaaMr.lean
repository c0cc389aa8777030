/- Plain mathematics of ranks: the rank of a list of bars, of a set of places; closures, circuits, bridges. No program in sight. -/
import Derived.Test.YtmnaohimnladnaaMq
namespace Go.Proofs.Ytmnaohimnladnaa

def consS (b : Bool) (S : Nat → Bool) : Nat → Bool
  | 0 => b
  | i + 1 => S i
/-- The members at the places of S. -/
def selR {α : Type} : List α → (Nat → Bool) → List α
  | [], _ => []
  | x :: xs, S => if S 0 = true then x :: selR xs (fun i => S (i + 1)) else selR xs (fun i => S (i + 1))
section
variable {α : Type}
theorem selR_cons (x : α) (xs : List α) (S : Nat → Bool) : selR (x :: xs) S = if S 0 = true then x :: selR xs (fun i => S (i + 1)) else selR xs (fun i => S (i + 1)) := rfl
theorem selR_nil (S : Nat → Bool) : selR ([] : List α) S = [] := rfl
theorem selR_countP (d : α) (P : α → Bool) : ∀ (xs : List α) (S : Nat → Bool), (selR xs S).countP P = cnt xs.length (fun i => S i && P (xs.getD i d))
  | [], _ => rfl
  | x :: xs, S => by
    rw [List.length_cons, cnt_shift]
    simp only [List.getD_cons_zero, List.getD_cons_succ]
    rw [← selR_countP d P xs (fun i => S (i + 1)), selR_cons]
    cases h0 : S 0 with
    | true =>
      rw [if_pos rfl, List.countP_cons]
      cases P x <;> simp <;> omega
    | false => rw [if_neg (by simp)]; simp
theorem selR_len (xs : List α) (S : Nat → Bool) : (selR xs S).length = cnt xs.length S := by
  cases xs with
  | nil => rfl
  | cons x xs =>
    have h := selR_countP x (fun _ => true) (x :: xs) S
    rw [List.countP_true] at h
    rw [h]; simp
theorem selR_congr : ∀ (xs : List α) (S S' : Nat → Bool), (∀ i, i < xs.length → S i = S' i) → selR xs S = selR xs S'
  | [], _, _, _ => rfl
  | x :: xs, S, S', h => by
    unfold selR
    rw [h 0 (by simp), selR_congr xs (fun i => S (i + 1)) (fun i => S' (i + 1)) (fun i hi => h (i + 1) (by simpa using hi))]
theorem selR_all : ∀ (xs : List α) (S : Nat → Bool), (∀ i, i < xs.length → S i = true) → selR xs S = xs
  | [], _, _ => rfl
  | x :: xs, S, h => by
    unfold selR
    rw [if_pos (h 0 (by simp)), selR_all xs _ (fun i hi => h (i + 1) (by simpa using hi))]
theorem selR_sub : ∀ (xs : List α) (S S' : Nat → Bool), (∀ i, i < xs.length → S' i = true → S i = true) → (selR xs S').Sublist (selR xs S)
  | [], _, _, _ => List.Sublist.slnil
  | x :: xs, S, S', h => by
    have ih := selR_sub xs (fun i => S (i + 1)) (fun i => S' (i + 1)) (fun i hi => h (i + 1) (by simpa using hi))
    unfold selR
    cases h' : S' 0 with
    | true => rw [if_pos rfl, if_pos (h 0 (by simp) h')]; exact ih.cons_cons x
    | false =>
      rw [if_neg (by simp)]
      split
      · exact ih.cons x
      · exact ih
theorem sub_selR : ∀ (xs : List α) (S : Nat → Bool) (zs : List α), zs.Sublist (selR xs S) → ∃ S' : Nat → Bool, (∀ i, S' i = true → S i = true) ∧ zs = selR xs S'
  | [], _, zs, h => ⟨fun _ => false, fun _ h => (by cases h), List.eq_nil_of_sublist_nil (by rwa [selR_nil] at h)⟩
  | x :: xs, S, zs, h => by
    rw [selR_cons] at h
    split at h
    · rename_i h0
      rcases List.sublist_cons_iff.1 h with h' | ⟨r, hr, h'⟩
      · obtain ⟨S', h1, h2⟩ := sub_selR xs _ _ h'
        refine ⟨consS false S', fun i hi => ?_, ?_⟩
        · cases i with
          | zero => cases hi
          | succ i => exact h1 i hi
        · rw [h2]; rfl
      · obtain ⟨S', h1, h2⟩ := sub_selR xs _ _ h'
        refine ⟨consS true S', fun i hi => ?_, ?_⟩
        · cases i with
          | zero => exact h0
          | succ i => exact h1 i hi
        · rw [hr, h2]; rfl
    · obtain ⟨S', h1, h2⟩ := sub_selR xs _ _ h
      refine ⟨consS false S', fun i hi => ?_, ?_⟩
      · cases i with
        | zero => cases hi
        | succ i => exact h1 i hi
      · rw [h2]; rfl
theorem selR_append : ∀ (xs ys : List α) (S : Nat → Bool), selR (xs ++ ys) S = selR xs S ++ selR ys (fun i => S (xs.length + i))
  | [], ys, S => by simp [selR]
  | x :: xs, ys, S => by
    rw [List.cons_append, selR_cons, selR_cons, selR_append xs ys]
    have : (fun i => S (xs.length + i + 1)) = fun i => S ((x :: xs).length + i) := by
      funext i; rw [List.length_cons]; congr 1; omega
    rw [this]
    split <;> simp
end
theorem onlyP_sel (f : Int → Bool) (xs : List (Int × Int)) : ∀ k, k ≤ xs.length → onlyP f xs k = selR (xs.take k) (fun i => f (i : Int))
  | 0, _ => by simp [onlyP, selR]
  | k + 1, h => by
    have ih := onlyP_sel f xs k (by omega)
    have ht := take_succ_getD xs default k (by omega)
    have hl : (xs.take k).length = k := List.length_take_of_le (by omega)
    rw [ht, selR_append, hl]
    by_cases hf : f (k : Int) = true
    · rw [onlyP_yes f xs k hf, ih]
      congr 1
      simp [selR, hf]
    · rw [onlyP_no f xs k hf, ih]
      simp [selR, hf]
theorem only_sel (f : Int → Bool) (xs : List (Int × Int)) : onlyP f xs xs.length = selR xs (fun i => f (i : Int)) := by
  rw [onlyP_sel f xs _ (Nat.le_refl _), List.take_length]
theorem drop_sel {α : Type} : ∀ (xs : List α) (e : Nat), e < xs.length → xs.take e ++ xs.drop (e + 1) = selR xs (fun i => i != e)
  | [], e, h => by simp at h
  | x :: xs, 0, _ => by
    unfold selR
    rw [if_neg (by simp), selR_all xs _ (fun i _ => by simp)]
    simp
  | x :: xs, e + 1, h => by
    unfold selR
    rw [if_pos (by simp)]
    have := drop_sel xs e (by simpa using h)
    simp only [List.take_succ_cons, List.drop_succ_cons, List.cons_append]
    rw [this]
    congr 1
    refine selR_congr _ _ _ fun i _ => ?_
    by_cases hi : i = e
    · subst hi; simp
    · have : ¬ i + 1 = e + 1 := by omega
      simp [bne, nbeq hi, nbeq this]

/-! ### Lists of bars -/
def GoodL (n : Nat) (ys : List (Int × Int)) : Prop := ∀ x ∈ ys, 0 ≤ x.1 ∧ x.1 < x.2 ∧ x.2 < n
def IndL (n k l : Nat) (ys : List (Int × Int)) : Prop := ∀ V : Int → Bool, 0 < ys.countP (inB V) → ys.countP (inB V) + l ≤ k * sz n V
theorem GoodL.e {n : Nat} {ys : List (Int × Int)} (h : GoodL n ys) : GoodE ys.length n (exs ys) := fun _i hi => h _ (getD_mem' default hi)
theorem GoodL.sub {n : Nat} {ys zs : List (Int × Int)} (h : GoodL n ys) (hs : zs.Sublist ys) : GoodL n zs := fun x hx => h x (hs.subset hx)
/-- The rank: as many bars as the game accepts. -/
def rk (n k l : Nat) (ys : List (Int × Int)) : Nat := (playP n ys k l ys.length).pl.length
section
variable {n k l : Nat} {ys zs : List (Int × Int)}
theorem sp_sel (V : Int → Bool) (S : Nat → Bool) : (selR ys S).countP (inB V) = sp ys.length (exs ys) V S := selR_countP default (inB V) ys S
theorem indL_sel (S : Nat → Bool) : IndL n k l (selR ys S) ↔ Ind ys.length n k l (exs ys) S := by
  unfold IndL Ind
  simp only [sp_sel]
theorem IndL.sub (h : IndL n k l ys) (hs : zs.Sublist ys) : IndL n k l zs := fun V hV => by
  have h1 : zs.countP (inB V) ≤ ys.countP (inB V) := hs.countP_le
  have := h V (by omega)
  omega
theorem indL_perm (h : IndL n k l ys) (hp : ys.Perm zs) : IndL n k l zs := fun V hV => by
  rw [← hp.countP_eq] at hV ⊢
  exact h V hV
theorem rk_acc (hl : l < 2 * k) (hk : k ≤ 3) (hG : GoodL n ys) : rk n k l ys = cnt ys.length (accS ys.length n k l (exs ys) ys.length) := by
  obtain ⟨h1, h2, _⟩ := playP_spec (n := n) (k := k) (l := l) hl hk hG.e ys.length (Nat.le_refl _)
  unfold rk
  rw [← cnt_pl h1]
  exact cnt_congr fun i _ => h2 i
theorem rk_is (hl : l < 2 * k) (hk : k ≤ 3) (hG : GoodL n ys) : ∃ zs, zs.Sublist ys ∧ IndL n k l zs ∧ zs.length = rk n k l ys := by
  refine ⟨selR ys (accS ys.length n k l (exs ys) ys.length), ?_, (indL_sel _).2 (accS_ind _), ?_⟩
  · have := selR_sub ys (fun _ => true) (accS ys.length n k l (exs ys) ys.length) (fun _ _ _ => rfl)
    rwa [selR_all ys _ (fun _ _ => rfl)] at this
  · rw [selR_len, rk_acc hl hk hG]
theorem rk_max (hl : l < 2 * k) (hk : k ≤ 3) (hG : GoodL n ys) (hs : zs.Sublist ys) (hI : IndL n k l zs) : zs.length ≤ rk n k l ys := by
  rw [← selR_all ys (fun _ => true) (fun _ _ => rfl)] at hs
  obtain ⟨S, _, rfl⟩ := sub_selR ys _ _ hs
  rw [selR_len, rk_acc hl hk hG]
  exact accS_max hl hG.e ((indL_sel S).1 hI)
/-- The order of the bars says nothing. -/
theorem rk_perm (hl : l < 2 * k) (hk : k ≤ 3) (hG : GoodL n ys) (hp : ys.Perm zs) : rk n k l ys = rk n k l zs := by
  have key : ∀ ys zs : List (Int × Int), GoodL n ys → GoodL n zs → ys.Perm zs → rk n k l ys ≤ rk n k l zs := by
    intro ys zs h1 h2 hp
    obtain ⟨us, a, b, c⟩ := rk_is hl hk h1
    obtain ⟨us', p1, p2⟩ := List.exists_perm_sublist a hp
    rw [← c, ← p1.length_eq]
    exact rk_max hl hk h2 p2 (indL_perm b p1.symm)
  have hG' : GoodL n zs := fun x hx => hG x (hp.mem_iff.2 hx)
  exact Nat.le_antisymm (key ys zs hG hG' hp) (key zs ys hG' hG hp.symm)
/-- All bars are accepted exactly if they are sparse. -/
theorem rk_full (hl : l < 2 * k) (hk : k ≤ 3) (hG : GoodL n ys) : rk n k l ys = ys.length ↔ IndL n k l ys := by
  constructor
  · intro h
    obtain ⟨us, a, b, c⟩ := rk_is hl hk hG
    rw [a.eq_of_length (by omega)] at b
    exact b
  · intro h
    have h1 := rk_max hl hk hG (List.Sublist.refl _) h
    obtain ⟨us, a, b, c⟩ := rk_is hl hk hG
    have := a.length_le
    omega
end

/-! ### Ranks of sets of places -/
def rkS (n k l : Nat) (xs : List (Int × Int)) (S : Nat → Bool) : Nat := rk n k l (selR xs S)
section
variable {n k l : Nat} {xs : List (Int × Int)}
theorem good_sel (hG : GoodL n xs) (S : Nat → Bool) : GoodL n (selR xs S) := by
  have := selR_sub xs (fun _ => true) S (fun _ _ _ => rfl)
  rw [selR_all xs _ (fun _ _ => rfl)] at this
  exact hG.sub this
theorem rkS_is (hl : l < 2 * k) (hk : k ≤ 3) (hG : GoodL n xs) (S : Nat → Bool) : ∃ A : Nat → Bool, (∀ i, A i = true → S i = true) ∧ Ind xs.length n k l (exs xs) A ∧ cnt xs.length A = rkS n k l xs S := by
  obtain ⟨us, a, b, c⟩ := rk_is hl hk (good_sel hG S)
  obtain ⟨A, h1, rfl⟩ := sub_selR xs S us a
  exact ⟨A, h1, (indL_sel A).1 b, by rw [← selR_len]; exact c⟩
theorem rkS_max (hl : l < 2 * k) (hk : k ≤ 3) (hG : GoodL n xs) {S A : Nat → Bool} (hs : ∀ i, i < xs.length → A i = true → S i = true) (hI : Ind xs.length n k l (exs xs) A) : cnt xs.length A ≤ rkS n k l xs S := by
  rw [← selR_len]
  exact rk_max hl hk (good_sel hG S) (selR_sub xs S A hs) ((indL_sel A).2 hI)
theorem rkS_mono (hl : l < 2 * k) (hk : k ≤ 3) (hG : GoodL n xs) {S T : Nat → Bool} (hs : ∀ i, i < xs.length → S i = true → T i = true) : rkS n k l xs S ≤ rkS n k l xs T := by
  obtain ⟨A, h1, h2, h3⟩ := rkS_is hl hk hG S
  rw [← h3]
  exact rkS_max hl hk hG (fun i hi hA => hs i hi (h1 i hA)) h2
theorem rkS_congr {S T : Nat → Bool} (h : ∀ i, i < xs.length → S i = T i) : rkS n k l xs S = rkS n k l xs T := by
  unfold rkS; rw [selR_congr xs S T h]
theorem rkS_full (hl : l < 2 * k) (hk : k ≤ 3) (hG : GoodL n xs) (S : Nat → Bool) : rkS n k l xs S = cnt xs.length S ↔ Ind xs.length n k l (exs xs) S := by
  unfold rkS
  rw [← selR_len, rk_full hl hk (good_sel hG S), indL_sel]
/-- What cannot be augmented within T has T's rank. -/
theorem rkS_of_maximal (hl : l < 2 * k) (hk : k ≤ 3) (hG : GoodL n xs) {A T : Nat → Bool} (hs : ∀ i, i < xs.length → A i = true → T i = true) (hI : Ind xs.length n k l (exs xs) A)
    (hm : ∀ e, e < xs.length → T e = true → A e = false → ¬ Ind xs.length n k l (exs xs) (addS A e)) : rkS n k l xs T = cnt xs.length A := by
  have h1 := rkS_max hl hk hG hs hI
  obtain ⟨B, b1, b2, b3⟩ := rkS_is hl hk hG T
  rcases Nat.lt_or_ge (cnt xs.length A) (cnt xs.length B) with hlt | hge
  · obtain ⟨e, he, hBe, hAe, hind⟩ := augment hl hG.e _ A B rfl hI b2 hlt
    exact absurd hind (hm e he (b1 e hBe) hAe)
  · omega
theorem cnt_addS {m : Nat} {A : Nat → Bool} {e : Nat} (he : e < m) (hA : A e = false) : cnt m (addS A e) = cnt m A + 1 :=
  cnt_set he hA (by simp [addS]) fun i _ hi => by simp [addS, nbeq hi]
/-- The closure has the same rank. -/
theorem closure_rank (hl : l < 2 * k) (hk : k ≤ 3) (hG : GoodL n xs) {S T : Nat → Bool} (hs : ∀ i, i < xs.length → S i = true → T i = true) (hT : ∀ e, e < xs.length → T e = true → rkS n k l xs (addS S e) = rkS n k l xs S) : rkS n k l xs T = rkS n k l xs S := by
  obtain ⟨A, a1, a2, a3⟩ := rkS_is hl hk hG S
  rw [← a3]
  refine rkS_of_maximal hl hk hG (fun i hi hA => hs i hi (a1 i hA)) a2 fun e he hTe hAe hind => ?_
  have h1 := rkS_max hl hk hG (S := addS S e) (A := addS A e) (fun i _ hi => by
    simp only [addS, Bool.or_eq_true] at hi ⊢
    rcases hi with hi | hi
    · exact .inl (a1 i hi)
    · exact .inr hi) hind
  rw [cnt_addS he hAe, hT e he hTe] at h1
  omega
/-- The closure is closed. -/
theorem closure_closed (hl : l < 2 * k) (hk : k ≤ 3) (hG : GoodL n xs) {S T : Nat → Bool} (hs : ∀ i, i < xs.length → S i = true → T i = true) (hT : ∀ e, e < xs.length → (T e = true ↔ rkS n k l xs (addS S e) = rkS n k l xs S)) {e : Nat} (he : e < xs.length) :
    rkS n k l xs (addS T e) = rkS n k l xs T ↔ T e = true := by
  have hr := closure_rank hl hk hG hs (fun e he h => (hT e he).1 h)
  constructor
  · intro h
    refine (hT e he).2 (Nat.le_antisymm ?_ ?_)
    · have := rkS_mono hl hk hG (S := addS S e) (T := addS T e) (fun i hi h => by
        simp only [addS, Bool.or_eq_true] at h ⊢
        rcases h with h | h
        · exact .inl (hs i hi h)
        · exact .inr h)
      omega
    · exact rkS_mono hl hk hG (fun i _ h => by simp [addS, h])
  · intro h
    refine rkS_congr fun i _ => ?_
    by_cases hi : i = e
    · subst hi; simp [addS, h]
    · simp [addS, nbeq hi]

/-! ### Circuits -/
/-- What a bar depends on among the bars of B, and the bar itself. -/
def IsCirc (n k l : Nat) (xs : List (Int × Int)) (B : Nat → Bool) (e : Nat) (C : Nat → Bool) : Prop :=
  ∀ i, i < xs.length → (C i = true ↔ (i = e ∨ (B i = true ∧ Ind xs.length n k l (exs xs) (addS (delS B i) e))))
theorem circ_dep (hl : l < 2 * k) (hG : GoodL n xs) {B C : Nat → Bool} {e : Nat} (hB : Ind xs.length n k l (exs xs) B) (he : e < xs.length) (hBe : B e = false) (hd : ¬ Ind xs.length n k l (exs xs) (addS B e)) (hC : IsCirc n k l xs B e C) : ¬ Ind xs.length n k l (exs xs) C := by
  intro hI
  obtain ⟨T, hT, hTe, hmin⟩ := least_tight hl hG.e hB he (blocked hl hG.e hB he hBe hd)
  have h1 : sp xs.length (exs xs) T (addS B e) ≤ sp xs.length (exs xs) T C := sp_mono fun i hi h hv => by
    refine ⟨(hC i hi).2 ?_, hv⟩
    by_cases hie : i = e
    · exact .inl hie
    · simp only [addS, Bool.or_eq_true, beq_iff_eq, hie, or_false] at h
      exact .inr ⟨h, swap_ind hl hG.e hB he hi hBe h hv hmin⟩
  have h2 := sp_add_in (S := B) he hBe hTe
  have h3 := hI.two hl hT.1
  have := hT.2
  omega
theorem circ_min {B C : Nat → Bool} {e g : Nat} (hB : Ind xs.length n k l (exs xs) B) (hC : IsCirc n k l xs B e C) (hg : g < xs.length) (hCg : C g = true) : Ind xs.length n k l (exs xs) (delS C g) := by
  by_cases hge : g = e
  · subst hge
    refine hB.sub fun i hi h => ?_
    simp only [delS, Bool.and_eq_true, bne_iff_ne] at h
    rcases (hC i hi).1 h.1 with hh | hh
    · exact absurd hh h.2
    · exact hh.1
  · rcases (hC g hg).1 hCg with hh | hh
    · exact absurd hh hge
    · refine hh.2.sub fun i hi h => ?_
      simp only [delS, addS, Bool.and_eq_true, Bool.or_eq_true, bne_iff_ne, beq_iff_eq] at h ⊢
      rcases (hC i hi).1 h.1 with h1 | h1
      · exact .inr h1
      · exact .inl ⟨h1.1, h.2⟩
/-- An independent set goes on to a great one within both. -/
theorem extend (hl : l < 2 * k) (hG : GoodL n xs) : ∀ (d : Nat) (I J : Nat → Bool), cnt xs.length J - cnt xs.length I = d → Ind xs.length n k l (exs xs) I → Ind xs.length n k l (exs xs) J →
    ∃ I' : Nat → Bool, (∀ i, I i = true → I' i = true) ∧ (∀ i, I' i = true → I i = true ∨ J i = true) ∧ Ind xs.length n k l (exs xs) I' ∧ cnt xs.length J ≤ cnt xs.length I'
  | 0, I, J, hd, hI, hJ => ⟨I, fun _ h => h, fun _ h => .inl h, hI, by omega⟩
  | d + 1, I, J, hd, hI, hJ => by
    obtain ⟨e, he, hJe, hIe, hind⟩ := augment hl hG.e _ I J rfl hI hJ (by omega)
    obtain ⟨I', a1, a2, a3, a4⟩ := extend hl hG d (addS I e) J (by rw [cnt_addS he hIe]; omega) hind hJ
    refine ⟨I', fun i hi => a1 i (by simp [addS, hi]), fun i hi => ?_, a3, a4⟩
    rcases a2 i hi with hh | hh
    · simp only [addS, Bool.or_eq_true, beq_iff_eq] at hh
      rcases hh with hh | rfl
      · exact .inl hh
      · exact .inr hJe
    · exact .inr hh
/-- A bar of a circuit is no bridge. -/
theorem circ_bridge (hl : l < 2 * k) (hk : k ≤ 3) (hG : GoodL n xs) {C : Nat → Bool} {g : Nat} (hg : g < xs.length) (hd : ¬ Ind xs.length n k l (exs xs) C) (hm : Ind xs.length n k l (exs xs) (delS C g)) : rkS n k l xs (fun i => i != g) = rkS n k l xs (fun _ => true) := by
  refine Nat.le_antisymm (rkS_mono hl hk hG fun _ _ _ => rfl) ?_
  obtain ⟨J, j1, j2, j3⟩ := rkS_is hl hk hG (fun i => i != g)
  obtain ⟨D, d1, d2, d3, d4⟩ := extend hl hG _ (delS C g) J rfl hm j2
  have hDg : D g = false := by
    cases h : D g with
    | false => rfl
    | true =>
      rcases d2 g h with hh | hh
      · simp [delS] at hh
      · have := j1 g hh; simp at this
  obtain ⟨K, _, k2, k3⟩ := rkS_is hl hk hG (fun _ => true)
  rcases Nat.lt_or_ge (rkS n k l xs (fun i => i != g)) (rkS n k l xs (fun _ => true)) with hlt | hge
  · have hDle := rkS_max hl hk hG (S := fun i => i != g) (A := D) (fun i _ hi => by
      simp only [bne_iff_ne]
      intro hh; subst hh; rw [hDg] at hi; cases hi) d3
    obtain ⟨e, he, hKe, hDe, hind⟩ := augment hl hG.e _ D K rfl d3 k2 (by omega)
    by_cases heg : e = g
    · subst heg
      refine absurd (hind.sub fun i _ hi => ?_) hd
      by_cases hie : i = e
      · subst hie; simp [addS]
      · have := d1 i (by simp [delS, hi, bne, nbeq hie])
        simp [addS, this]
    · have := rkS_max hl hk hG (S := fun i => i != g) (A := addS D e) (fun i _ hi => by
        simp only [addS, Bool.or_eq_true, beq_iff_eq] at hi
        simp only [bne_iff_ne]
        rcases hi with hi | hi
        · intro hh; subst hh; rw [hDg] at hi; cases hi
        · rw [hi]; exact heg) hind
      rw [cnt_addS he hDe] at this
      omega
  · exact hge
end
end Go.Proofs.Ytmnaohimnladnaa
