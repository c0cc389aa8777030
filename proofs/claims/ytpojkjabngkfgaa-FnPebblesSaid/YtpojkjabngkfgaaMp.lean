/- Plain mathematics of the pebble game: the search, the path that is turned, pebbles gathered, bars placed. No program in sight. -/
import Derived.Test.YtpojkjabngkfgaaMi
import Derived.Test.YtpojkjabngkfgaaMt
namespace Go.Proofs.Ytpojkjabngkfgaa

structure PS where
  f : List Int
  t : List Int
  pl : List Int
structure FSt where
  sn : List Bool
  fr : List Int
  q : List Int

/-- The bar that was placed as number j. -/
def brP (xs : List (Int × Int)) (pl : List Int) (j : Nat) : Int × Int := xs.getD (pl.getD j default).toNat default
def othB (x : Int × Int) (v : Int) : Int := x.1 + x.2 - v
def gI (l : List Int) (v : Int) : Int := l.getD v.toNat default
def gB (l : List Bool) (v : Int) : Bool := l.getD v.toNat false

section search
variable (xs : List (Int × Int)) (f t pl : List Int) (b : Int)
def stE (v : Int) (s : FSt) (j : Nat) : FSt × Bool :=
  if t.getD j default = v then
    if gB s.sn (othB (brP xs pl j) v) = true then (s, false)
    else (⟨s.sn.set (othB (brP xs pl j) v).toNat true, s.fr.set (othB (brP xs pl j) v).toNat j, s.q ++ [othB (brP xs pl j) v]⟩, decide (othB (brP xs pl j) v ≠ b ∧ 0 < gI f (othB (brP xs pl j) v)))
  else (s, false)
def scanF (v : Int) : Nat → Nat → FSt → FSt × Bool
  | 0, _, s => (s, false)
  | r + 1, j, s => if (stE xs f t pl b v s j).2 = true then ((stE xs f t pl b v s j).1, true) else scanF v r (j + 1) (stE xs f t pl b v s j).1
def bfsF : Nat → Nat → FSt → FSt × Bool
  | 0, _, s => (s, false)
  | r + 1, i, s =>
    if i < s.q.length then
      if (scanF xs f t pl b (s.q.getD i default) pl.length 0 s).2 = true then ((scanF xs f t pl b (s.q.getD i default) pl.length 0 s).1, true)
      else bfsF r (i + 1) (scanF xs f t pl b (s.q.getD i default) pl.length 0 s).1
    else (s, false)
end search

/-- What was placed is bars, each from one of its ends. -/
structure PV (n : Nat) (xs : List (Int × Int)) (t pl : List Int) : Prop where
  tl : t.length = pl.length
  ok : ∀ j, j < pl.length → 0 ≤ (brP xs pl j).1 ∧ (brP xs pl j).1 < (brP xs pl j).2 ∧ (brP xs pl j).2 < n ∧ (t.getD j default = (brP xs pl j).1 ∨ t.getD j default = (brP xs pl j).2)

structure WF (n : Nat) (xs : List (Int × Int)) (t pl : List Int) (a : Int) (s : FSt) : Prop where
  sl : s.sn.length = n
  fl : s.fr.length = n
  qc : s.q.length + cf s.sn ≤ n
  q0 : 0 < s.q.length ∧ s.q.getD 0 default = a
  qs : ∀ v, v ∈ s.q ↔ (0 ≤ v ∧ v < n ∧ gB s.sn v = true)
  tree : ∀ p, 0 < p → p < s.q.length → ∃ (k p' : Nat), gI s.fr (s.q.getD p default) = (k : Int) ∧ k < pl.length ∧ p' < p ∧ s.q.getD p' default = t.getD k default ∧ s.q.getD p default = othB (brP xs pl k) (t.getD k default)
  nodup : s.q.Nodup

theorem getD_app_left {α : Type} (l r : List α) (d : α) (i : Nat) (h : i < l.length) : (l ++ r).getD i d = l.getD i d := by
  simp [List.getD_eq_getElem?_getD, List.getElem?_append_left h]
theorem getD_app_here {α : Type} (l : List α) (x d : α) : (l ++ [x]).getD l.length d = x := by
  simp [List.getD_eq_getElem?_getD]
theorem mem_getD {α : Type} {l : List α} {x : α} (d : α) (h : x ∈ l) : ∃ p, p < l.length ∧ l.getD p d = x := by
  obtain ⟨p, hp, hx⟩ := List.getElem_of_mem h
  exact ⟨p, hp, by simp [hp, hx]⟩
theorem getD_mem' {α : Type} {l : List α} {p : Nat} (d : α) (h : p < l.length) : l.getD p d ∈ l := by simp [h]
theorem getD_set_eq {α : Type} (l : List α) (i : Nat) (x d : α) (h : i < l.length) : (l.set i x).getD i d = x := by simp [List.getD_eq_getElem?_getD, h]
theorem getD_set_ne {α : Type} (l : List α) (i j : Nat) (x d : α) (h : i ≠ j) : (l.set i x).getD j d = l.getD j d := by simp [List.getD_eq_getElem?_getD, List.getElem?_set_ne h]
theorem toNat_ne {u v : Int} (hu : 0 ≤ u) (hv : 0 ≤ v) (h : u ≠ v) : u.toNat ≠ v.toNat := by omega

section
variable {n : Nat} {xs : List (Int × Int)} {f t pl : List Int} {a b : Int}

theorem PV.oth (h : PV n xs t pl) {j : Nat} (hj : j < pl.length) : 0 ≤ othB (brP xs pl j) (t.getD j default) ∧ othB (brP xs pl j) (t.getD j default) < n ∧ 0 ≤ t.getD j default ∧ t.getD j default < n ∧ othB (brP xs pl j) (t.getD j default) ≠ t.getD j default := by
  obtain ⟨h1, h2, h3, h4⟩ := h.ok j hj
  unfold othB
  rcases h4 with h4 | h4 <;> (rw [h4]; omega)

theorem WF.add (hP : PV n xs t pl) {s : FSt} (h : WF n xs t pl a s) {j : Nat} (hj : j < pl.length) (hm : t.getD j default ∈ s.q) (hn : gB s.sn (othB (brP xs pl j) (t.getD j default)) ≠ true) :
    WF n xs t pl a ⟨s.sn.set (othB (brP xs pl j) (t.getD j default)).toNat true, s.fr.set (othB (brP xs pl j) (t.getD j default)).toNat j, s.q ++ [othB (brP xs pl j) (t.getD j default)]⟩ := by
  obtain ⟨u0, un, _, _, _⟩ := hP.oth hj
  generalize hu : othB (brP xs pl j) (t.getD j default) = u at *
  have hun : u.toNat < n := by omega
  have hnq : u ∉ s.q := fun hm => hn ((h.qs u).1 hm).2.2
  have hcf := (set_cf s.sn u.toNat).2.2 (by rw [h.sl]; exact hun) (by simpa [gB] using hn)
  refine ⟨by simp [h.sl], by simp [h.fl], by have := h.qc; simp only [List.length_append, List.length_singleton]; omega, ?_, ?_, ?_, ?_⟩
  · refine ⟨by simp, ?_⟩
    rw [getD_app_left _ _ _ _ h.q0.1]; exact h.q0.2
  · intro v
    simp only [List.mem_append, List.mem_singleton]
    by_cases hv : v = u
    · subst hv
      refine ⟨fun _ => ⟨u0, un, ?_⟩, fun _ => .inr rfl⟩
      unfold gB; exact getD_set_eq _ _ _ _ (by rw [h.sl]; exact hun)
    · have h1 := h.qs v
      constructor
      · intro hh
        rcases hh with hh | hh
        · obtain ⟨a1, a2, a3⟩ := h1.1 hh
          refine ⟨a1, a2, ?_⟩
          unfold gB
          rw [getD_set_ne _ _ _ _ _ (toNat_ne u0 a1 (Ne.symm hv))]; exact a3
        · exact absurd hh hv
      · rintro ⟨a1, a2, a3⟩
        unfold gB at a3
        rw [getD_set_ne _ _ _ _ _ (toNat_ne u0 a1 (Ne.symm hv))] at a3
        exact .inl (h1.2 ⟨a1, a2, a3⟩)
  · intro p hp0 hp
    simp only [List.length_append, List.length_singleton] at hp
    by_cases hpl : p < s.q.length
    · obtain ⟨k, p', h1, h2, h3, h4, h5⟩ := h.tree p hp0 hpl
      refine ⟨k, p', ?_, h2, h3, ?_, ?_⟩
      · show gI _ ((s.q ++ [u]).getD p default) = _
        rw [getD_app_left _ _ _ _ hpl]
        have hmem := getD_mem' default hpl
        have hne : s.q.getD p default ≠ u := fun hh => hnq (hh ▸ hmem)
        have hb := (h.qs _).1 hmem
        unfold gI at h1 ⊢
        rw [getD_set_ne _ _ _ _ _ (toNat_ne u0 hb.1 (Ne.symm hne))]; exact h1
      · show (s.q ++ [u]).getD p' default = _
        rw [getD_app_left _ _ _ _ (by omega)]; exact h4
      · show (s.q ++ [u]).getD p default = _
        rw [getD_app_left _ _ _ _ hpl]; exact h5
    · have hpe : p = s.q.length := by omega
      subst hpe
      obtain ⟨p', hp', hq'⟩ := mem_getD default hm
      refine ⟨j, p', ?_, hj, hp', ?_, ?_⟩
      · show gI _ ((s.q ++ [u]).getD s.q.length default) = _
        rw [getD_app_here]
        unfold gI
        exact getD_set_eq _ _ _ _ (by rw [h.fl]; exact hun)
      · show (s.q ++ [u]).getD p' default = _
        rw [getD_app_left _ _ _ _ hp']; exact hq'
      · show (s.q ++ [u]).getD s.q.length default = _
        rw [getD_app_here, hu]
  · show (s.q ++ [u]).Nodup
    rw [List.nodup_append]
    exact ⟨h.nodup, by simp, fun x hx y hy => by simp at hy; subst hy; exact fun hh => hnq (hh ▸ hx)⟩

/-- No pebble is free but at a and b. -/
def Dry (f : List Int) (a b : Int) (s : FSt) : Prop := ∀ v ∈ s.q, v ≠ a → v = b ∨ gI f v ≤ 0
/-- All bars that begin at v lead to what is seen. -/
def DoneV (xs : List (Int × Int)) (t pl : List Int) (s : FSt) (v : Int) (j : Nat) : Prop := ∀ i, i < j → t.getD i default = v → gB s.sn (othB (brP xs pl i) v) = true
/-- s' goes on from s. -/
def Grow (s s' : FSt) : Prop := (∃ l, s'.q = s.q ++ l) ∧ ∀ v, gB s.sn v = true → gB s'.sn v = true
theorem Grow.refl (s : FSt) : Grow s s := ⟨⟨[], by simp⟩, fun _ h => h⟩
theorem Grow.trans {s s' s'' : FSt} (h : Grow s s') (h' : Grow s' s'') : Grow s s'' := by
  obtain ⟨l, hl⟩ := h.1
  obtain ⟨l', hl'⟩ := h'.1
  exact ⟨⟨l ++ l', by rw [hl', hl, List.append_assoc]⟩, fun v hv => h'.2 v (h.2 v hv)⟩
theorem gB_set {l : List Bool} {i : Nat} {v : Int} (h : gB l v = true) : gB (l.set i true) v = true := by
  unfold gB at *
  by_cases hi : i = v.toNat
  · subst hi
    have hl : v.toNat < l.length := by
      rcases Nat.lt_or_ge v.toNat l.length with hh | hh
      · exact hh
      · simp [Nat.not_lt.2 hh] at h
    exact getD_set_eq _ _ _ _ hl
  · rw [getD_set_ne _ _ _ _ _ hi]; exact h

/-- One step of the search. -/
theorem stE_spec (hP : PV n xs t pl) {s : FSt} (h : WF n xs t pl a s) {j : Nat} (hj : j < pl.length) {v : Int} (hv : v ∈ s.q) :
    WF n xs t pl a (stE xs f t pl b v s j).1 ∧ Grow s (stE xs f t pl b v s j).1 ∧
    ((stE xs f t pl b v s j).2 = false → (Dry f a b s → Dry f a b (stE xs f t pl b v s j).1) ∧ (t.getD j default = v → gB (stE xs f t pl b v s j).1.sn (othB (brP xs pl j) v) = true)) ∧
    ((stE xs f t pl b v s j).2 = true → 1 < (stE xs f t pl b v s j).1.q.length ∧ (stE xs f t pl b v s j).1.q.getD ((stE xs f t pl b v s j).1.q.length - 1) default ≠ b ∧ 0 < gI f ((stE xs f t pl b v s j).1.q.getD ((stE xs f t pl b v s j).1.q.length - 1) default)) := by
  unfold stE
  by_cases h1 : t.getD j default = v
  · rw [if_pos h1]
    by_cases h2 : gB s.sn (othB (brP xs pl j) v) = true
    · rw [if_pos h2]
      exact ⟨h, Grow.refl s, fun _ => ⟨id, fun _ => h2⟩, fun hh => by cases hh⟩
    · rw [if_neg h2]
      subst h1
      have hw := WF.add hP h hj hv h2
      obtain ⟨u0, un, _, _, _⟩ := hP.oth hj
      refine ⟨hw, ⟨⟨_, rfl⟩, fun v hv => gB_set hv⟩, fun hd => ⟨fun hD w hw' hwa => ?_, fun _ => ?_⟩, fun hd => ?_⟩
      · rcases List.mem_append.1 hw' with hw' | hw'
        · exact hD w hw' hwa
        · rw [List.mem_singleton] at hw'
          subst hw'
          have := of_decide_eq_false hd
          by_cases hb : othB (brP xs pl j) (t.getD j default) = b
          · exact .inl hb
          · exact .inr (by
              rcases Int.lt_or_le 0 (gI f (othB (brP xs pl j) (t.getD j default))) with hh | hh
              · exact absurd ⟨hb, hh⟩ this
              · exact hh)
      · unfold gB
        exact getD_set_eq _ _ _ _ (by rw [h.sl]; omega)
      · have hd' := of_decide_eq_true hd
        have hl := h.q0.1
        have e : (s.q ++ [othB (brP xs pl j) (t.getD j default)]).length - 1 = s.q.length := by simp
        show 1 < (s.q ++ [othB (brP xs pl j) (t.getD j default)]).length ∧ (s.q ++ [othB (brP xs pl j) (t.getD j default)]).getD ((s.q ++ [othB (brP xs pl j) (t.getD j default)]).length - 1) default ≠ b ∧ 0 < gI f ((s.q ++ [othB (brP xs pl j) (t.getD j default)]).getD ((s.q ++ [othB (brP xs pl j) (t.getD j default)]).length - 1) default)
        rw [e, getD_app_here]
        exact ⟨by simp; omega, hd'.1, hd'.2⟩
  · rw [if_neg h1]
    exact ⟨h, Grow.refl s, fun _ => ⟨id, fun hh => absurd hh h1⟩, fun hh => by cases hh⟩

def Found (f : List Int) (b : Int) (s : FSt) : Prop := 1 < s.q.length ∧ s.q.getD (s.q.length - 1) default ≠ b ∧ 0 < gI f (s.q.getD (s.q.length - 1) default)

theorem scanF_spec (hP : PV n xs t pl) {v : Int} : ∀ (r j : Nat) (s : FSt), WF n xs t pl a s → v ∈ s.q → r + j = pl.length → DoneV xs t pl s v j →
    WF n xs t pl a (scanF xs f t pl b v r j s).1 ∧ Grow s (scanF xs f t pl b v r j s).1 ∧
    ((scanF xs f t pl b v r j s).2 = false → (Dry f a b s → Dry f a b (scanF xs f t pl b v r j s).1) ∧ DoneV xs t pl (scanF xs f t pl b v r j s).1 v pl.length) ∧
    ((scanF xs f t pl b v r j s).2 = true → Found f b (scanF xs f t pl b v r j s).1)
  | 0, j, s, h, _, hr, hd => ⟨h, Grow.refl s, fun _ => ⟨id, by have : j = pl.length := by omega
                                                               rw [← this]; exact hd⟩, fun hh => by cases hh⟩
  | r + 1, j, s, h, hv, hr, hd => by
    obtain ⟨h1, h2, h3, h4⟩ := stE_spec (f := f) (b := b) hP h (j := j) (by omega) hv
    unfold scanF
    cases hs : (stE xs f t pl b v s j).2 with
    | true =>
      rw [if_pos rfl]
      exact ⟨h1, h2, fun hh => (by cases hh), fun _ => h4 hs⟩
    | false =>
      rw [if_neg (by simp)]
      obtain ⟨h5, h6⟩ := h3 hs
      have hv' : v ∈ (stE xs f t pl b v s j).1.q := by
        obtain ⟨l, hl⟩ := h2.1
        rw [hl]; exact List.mem_append_left _ hv
      obtain ⟨g1, g2, g3, g4⟩ := scanF_spec hP r (j + 1) _ h1 hv' (by omega) (fun i hi hti => by
        rcases Nat.lt_succ_iff_lt_or_eq.1 hi with hi | hi
        · exact h2.2 _ (hd i hi hti)
        · subst hi; exact h6 hti)
      exact ⟨g1, h2.trans g2, fun hh => ⟨fun hD => (g3 hh).1 (h5 hD), (g3 hh).2⟩, g4⟩

theorem bfsF_spec (hP : PV n xs t pl) : ∀ (r i : Nat) (s : FSt), WF n xs t pl a s → Dry f a b s → (∀ p, p < i → DoneV xs t pl s (s.q.getD p default) pl.length) → i ≤ s.q.length → n + 1 ≤ r + i →
    WF n xs t pl a (bfsF xs f t pl b r i s).1 ∧
    ((bfsF xs f t pl b r i s).2 = false → Dry f a b (bfsF xs f t pl b r i s).1 ∧ ∀ v ∈ (bfsF xs f t pl b r i s).1.q, DoneV xs t pl (bfsF xs f t pl b r i s).1 v pl.length) ∧
    ((bfsF xs f t pl b r i s).2 = true → Found f b (bfsF xs f t pl b r i s).1)
  | 0, i, s, h, _, _, hi, hr => by have := h.qc; omega
  | r + 1, i, s, h, hD, hd, hi, hr => by
    unfold bfsF
    by_cases hlt : i < s.q.length
    · rw [if_pos hlt]
      have hm := getD_mem' default hlt
      obtain ⟨h1, h2, h3, h4⟩ := scanF_spec (f := f) (b := b) hP pl.length 0 s h hm (by omega) (fun _ hh => by omega)
      cases hs : (scanF xs f t pl b (s.q.getD i default) pl.length 0 s).2 with
      | true =>
        rw [if_pos rfl]
        exact ⟨h1, fun hh => (by cases hh), fun _ => h4 hs⟩
      | false =>
        rw [if_neg (by simp)]
        obtain ⟨h5, h6⟩ := h3 hs
        obtain ⟨l, hl⟩ := h2.1
        refine bfsF_spec hP r (i + 1) _ h1 (h5 hD) (fun p hp => ?_) (by rw [hl, List.length_append]; omega) (by omega)
        have hpq : (scanF xs f t pl b (s.q.getD i default) pl.length 0 s).1.q.getD p default = s.q.getD p default := by
          rw [hl, getD_app_left _ _ _ _ (by omega)]
        rw [hpq]
        rcases Nat.lt_succ_iff_lt_or_eq.1 hp with hp | hp
        · exact fun i' hi' hti => h2.2 _ (hd p hp i' hi' hti)
        · subst hp; exact h6
    · rw [if_neg hlt]
      refine ⟨h, fun _ => ⟨hD, fun v hv => ?_⟩, fun hh => by cases hh⟩
      obtain ⟨p, hp, hpv⟩ := mem_getD default hv
      have hp' : p < s.q.length := hp
      rw [← hpv]
      exact hd p (by omega)

def s0F (n : Nat) (a : Int) : FSt := ⟨(List.replicate n false).set a.toNat true, List.replicate n (-1), [a]⟩
theorem gB_rep (n : Nat) (v : Int) : gB (List.replicate n false) v = false := by
  unfold gB
  rw [List.getD_eq_getElem?_getD, List.getElem?_replicate]
  split <;> rfl
theorem cf_rep (n : Nat) : cf (List.replicate n false) = n := by simp [cf, List.countP_replicate]
theorem s0F_wf (ha : 0 ≤ a ∧ a < n) : WF n xs t pl a (s0F n a) := by
  have hcf := (set_cf (List.replicate n false) a.toNat).2.2 (by simp; omega) (by have := gB_rep n a; unfold gB at this; exact this)
  rw [cf_rep] at hcf
  refine ⟨by simp [s0F], by simp [s0F], by simp only [s0F, List.length_singleton]; omega, ⟨by simp [s0F], by simp [s0F]⟩, fun v => ?_, fun p h0 hp => by simp [s0F] at hp; omega, by simp [s0F]⟩
  simp only [s0F, List.mem_singleton]
  by_cases hv : v = a
  · subst hv
    refine ⟨fun _ => ⟨ha.1, ha.2, ?_⟩, fun _ => rfl⟩
    unfold gB; exact getD_set_eq _ _ _ _ (by simp; omega)
  · refine ⟨fun h => absurd h hv, fun ⟨h0, _, h2⟩ => ?_⟩
    unfold gB at h2
    rw [getD_set_ne _ _ _ _ _ (toNat_ne ha.1 h0 (Ne.symm hv))] at h2
    have := gB_rep n v
    unfold gB at this
    rw [this] at h2; cases h2
theorem s0F_dry : Dry f a b (s0F n a) := fun v hv hne => by simp [s0F] at hv; exact absurd hv hne

/-! ### The path -/
def pathF (a : Int) (fr t : List Int) : Nat → Int → List (Nat × Int)
  | 0, _ => []
  | r + 1, v => if v = a then [] else ((gI fr v).toNat, t.getD (gI fr v).toNat default) :: pathF a fr t r (t.getD (gI fr v).toNat default)
/-- From v back to a. -/
def isPath (n : Nat) (xs : List (Int × Int)) (pl : List Int) (a : Int) (fr tc : List Int) : Int → List (Nat × Int) → Prop
  | v, [] => v = a
  | v, (k, w) :: ps => v ≠ a ∧ 0 ≤ v ∧ v < n ∧ gI fr v = (k : Int) ∧ k < pl.length ∧ tc.getD k default = w ∧ v = othB (brP xs pl k) w ∧ (v = (brP xs pl k).1 ∨ v = (brP xs pl k).2) ∧ (∀ q ∈ ps, q.1 ≠ k) ∧ isPath n xs pl a fr tc w ps
def flipP : List Int → Int → List (Nat × Int) → List Int
  | t, _, [] => t
  | t, v, (k, w) :: ps => flipP (t.set k v) w ps
theorem isPath_set {fr : List Int} {k : Nat} {x : Int} : ∀ (ps : List (Nat × Int)) (tc : List Int) (v : Int), (∀ q ∈ ps, q.1 ≠ k) → isPath n xs pl a fr tc v ps → isPath n xs pl a fr (tc.set k x) v ps
  | [], _, _, _, h => h
  | (k', w) :: ps, tc, v, hk, h => by
    obtain ⟨h1, h2, h3, h4, h5, h6, h7, h8, h9, h10⟩ := h
    refine ⟨h1, h2, h3, h4, h5, ?_, h7, h8, h9, isPath_set ps tc w (fun q hq => hk q (List.mem_cons_of_mem _ hq)) h10⟩
    rw [getD_set_ne _ _ _ _ _ (Ne.symm (hk (k', w) (List.mem_cons_self ..)))]; exact h6
theorem pathF_spec (hP : PV n xs t pl) {s : FSt} (h : WF n xs t pl a s) : ∀ (r p : Nat), p < s.q.length → p ≤ r →
    isPath n xs pl a s.fr t (s.q.getD p default) (pathF a s.fr t r (s.q.getD p default)) ∧ ∀ q ∈ pathF a s.fr t r (s.q.getD p default), q.1 < pl.length ∧ ∃ p', p' ≤ p ∧ s.q.getD p' default = othB (brP xs pl q.1) (t.getD q.1 default)
  | 0, p, hp, hr => by
    have : p = 0 := by omega
    subst this
    exact ⟨h.q0.2, fun q hq => by cases hq⟩
  | r + 1, p, hp, hr => by
    unfold pathF
    by_cases hpa : s.q.getD p default = a
    · rw [if_pos hpa]
      exact ⟨hpa, fun q hq => by cases hq⟩
    · rw [if_neg hpa]
      have hp0 : 0 < p := by
        rcases Nat.eq_zero_or_pos p with h0 | h0
        · subst h0; exact absurd h.q0.2 hpa
        · exact h0
      obtain ⟨k, p', h1, h2, h3, h4, h5⟩ := h.tree p hp0 hp
      have hk : (gI s.fr (s.q.getD p default)).toNat = k := by omega
      rw [hk, ← h4]
      obtain ⟨g1, g2⟩ := pathF_spec hP h r p' (by omega) (by omega)
      have hb := (h.qs _).1 (getD_mem' default hp)
      obtain ⟨b1, b2, b3, b4⟩ := hP.ok k h2
      refine ⟨⟨hpa, hb.1, hb.2.1, h1, h2, h4.symm, by rw [h4]; exact h5, ?_, ?_, g1⟩, ?_⟩
      · rw [h5]; unfold othB
        rcases b4 with b4 | b4 <;> rw [b4] <;> omega
      · intro q hq hqk
        obtain ⟨_, p'', hp'', hq''⟩ := g2 q hq
        rw [hqk, ← h5] at hq''
        have l1 : p'' < s.q.length := by omega
        have e1 : s.q[p''] = s.q[p] := by simpa [l1, hp] using hq''
        have := (List.getElem_inj h.nodup).1 e1
        omega
      · intro q hq
        rcases List.mem_cons.1 hq with rfl | hq
        · exact ⟨h2, p, Nat.le_refl _, h5⟩
        · obtain ⟨a1, p'', hp'', hq''⟩ := g2 q hq
          exact ⟨a1, p'', by omega, hq''⟩

theorem count_set' (l : List Int) (k : Nat) (x v : Int) (h : k < l.length) : ((l.set k x).count v : Int) = l.count v + (if x = v then 1 else 0) - (if l.getD k default = v then 1 else 0) := by
  induction l generalizing k with
  | nil => simp at h
  | cons y l ih =>
    cases k with
    | zero =>
      simp only [List.set_cons_zero, List.count_cons, List.getD_cons_zero]
      by_cases h1 : x = v <;> by_cases h2 : y = v <;> simp [h1, h2] <;> omega
    | succ k =>
      have := ih k (by simpa using h)
      simp only [List.set_cons_succ, List.count_cons, List.getD_cons_succ]
      omega
theorem flipP_len {fr : List Int} : ∀ (ps : List (Nat × Int)) (tc : List Int) (v : Int), (flipP tc v ps).length = tc.length
  | [], _, _ => rfl
  | (k, w) :: ps, tc, v => by unfold flipP; rw [flipP_len (fr := fr) ps]; simp
theorem flipP_count {fr : List Int} (v' : Int) : ∀ (ps : List (Nat × Int)) (tc : List Int) (v : Int), tc.length = pl.length → isPath n xs pl a fr tc v ps → ((flipP tc v ps).count v' : Int) = tc.count v' + (if v = v' then 1 else 0) - (if a = v' then 1 else 0)
  | [], tc, v, _, h => by
    have : v = a := h
    subst this
    unfold flipP; omega
  | (k, w) :: ps, tc, v, hl, h => by
    obtain ⟨h1, h2, h3, h4, h5, h6, h7, h8, h9, h10⟩ := h
    unfold flipP
    rw [flipP_count v' ps _ w (by simp [hl]) (isPath_set ps tc w h9 h10), count_set' _ _ _ _ (by omega), h6]
    omega
/-- Each tail stays an end of its bar. -/
theorem flipP_pv {fr : List Int} : ∀ (ps : List (Nat × Int)) (tc : List Int) (v : Int), PV n xs tc pl → isPath n xs pl a fr tc v ps → PV n xs (flipP tc v ps) pl
  | [], _, _, hP, _ => hP
  | (k, w) :: ps, tc, v, hP, h => by
    obtain ⟨h1, h2, h3, h4, h5, h6, h7, h8, h9, h10⟩ := h
    unfold flipP
    refine flipP_pv ps _ w ⟨by simp [hP.tl], fun j hj => ?_⟩ (isPath_set ps tc w h9 h10)
    obtain ⟨b1, b2, b3, b4⟩ := hP.ok j hj
    refine ⟨b1, b2, b3, ?_⟩
    by_cases hjk : k = j
    · subst hjk
      rw [getD_set_eq _ _ _ _ (by rw [hP.tl]; exact hj)]; exact h8
    · rw [getD_set_ne _ _ _ _ _ hjk]; exact b4
end

/-! ### States of the game -/
structure okP (n : Nat) (k : Int) (xs : List (Int × Int)) (p : PS) : Prop where
  fl : p.f.length = n
  pv : PV n xs p.t p.pl
  pos : ∀ v : Int, 0 ≤ v → v < n → 0 ≤ gI p.f v
  sum : ∀ v : Int, 0 ≤ v → v < n → gI p.f v + p.t.count v = k
  asc : ∀ j, j < p.pl.length → 0 ≤ p.pl.getD j default ∧ p.pl.getD j default < xs.length ∧ (0 < j → p.pl.getD (j - 1) default < p.pl.getD j default)

def findR (n : Nat) (xs : List (Int × Int)) (p : PS) (a b : Int) : FSt × Bool := bfsF xs p.f p.t p.pl b (n + 1) 0 (s0F n a)
def lastQ (s : FSt) : Int := s.q.getD (s.q.length - 1) default
/-- A pebble comes from u to a. -/
def moveF (f : List Int) (u a : Int) : List Int := (f.set u.toNat (gI f u - 1)).set a.toNat (gI (f.set u.toNat (gI f u - 1)) a + 1)
def shiftP (n : Nat) (p : PS) (s : FSt) (a : Int) : PS := ⟨moveF p.f (lastQ s) a, flipP p.t (lastQ s) (pathF a s.fr p.t n (lastQ s)), p.pl⟩
def findP (n : Nat) (xs : List (Int × Int)) (p : PS) (a b : Int) : Option PS := if (findR n xs p a b).2 = true then some (shiftP n p (findR n xs p a b).1 a) else none

section
variable {n : Nat} {k : Int} {xs : List (Int × Int)} {p : PS} {a b : Int}
theorem findR_spec (hp : okP n k xs p) (ha : 0 ≤ a ∧ a < n) : WF n xs p.t p.pl a (findR n xs p a b).1 ∧
    ((findR n xs p a b).2 = false → Dry p.f a b (findR n xs p a b).1 ∧ ∀ v ∈ (findR n xs p a b).1.q, DoneV xs p.t p.pl (findR n xs p a b).1 v p.pl.length) ∧
    ((findR n xs p a b).2 = true → Found p.f b (findR n xs p a b).1) :=
  bfsF_spec hp.pv (n + 1) 0 _ (s0F_wf ha) s0F_dry (fun _ h => by omega) (by omega) (by omega)
theorem gI_set_eq (l : List Int) (v x : Int) (h : v.toNat < l.length) : gI (l.set v.toNat x) v = x := getD_set_eq _ _ _ _ h
theorem gI_set_ne (l : List Int) (v w x : Int) (hv : 0 ≤ v) (hw : 0 ≤ w) (h : v ≠ w) : gI (l.set v.toNat x) w = gI l w := getD_set_ne _ _ _ _ _ (toNat_ne hv hw h)
theorem moveF_at (f : List Int) (u a v : Int) (hu : 0 ≤ u) (ha : 0 ≤ a) (hv : 0 ≤ v) (hul : u < f.length) (hal : a < f.length) (hne : u ≠ a) : gI (moveF f u a) v = gI f v - (if u = v then 1 else 0) + (if a = v then 1 else 0) := by
  unfold moveF
  by_cases h1 : a = v
  · subst h1
    rw [gI_set_eq _ _ _ (by simp; omega), gI_set_ne _ _ _ _ hu ha hne, if_neg hne, if_pos rfl]; omega
  · rw [gI_set_ne _ _ _ _ ha hv h1, if_neg h1]
    by_cases h2 : u = v
    · subst h2
      rw [gI_set_eq _ _ _ (by omega), if_pos rfl]; omega
    · rw [gI_set_ne _ _ _ _ hu hv h2, if_neg h2]; omega
theorem moveF_len (f : List Int) (u a : Int) : (moveF f u a).length = f.length := by simp [moveF]

structure FoundU (n : Nat) (xs : List (Int × Int)) (p : PS) (a b : Int) (s : FSt) : Prop where
  u0 : 0 ≤ lastQ s ∧ lastQ s < n
  ua : lastQ s ≠ a
  ub : lastQ s ≠ b
  up : 0 < gI p.f (lastQ s)
  path : isPath n xs p.pl a s.fr p.t (lastQ s) (pathF a s.fr p.t n (lastQ s))
theorem foundU (hp : okP n k xs p) {s : FSt} (h : WF n xs p.t p.pl a s) (hf : Found p.f b s) : FoundU n xs p a b s := by
  obtain ⟨h1, h2, h3⟩ := hf
  have hq := h.qc
  have hmem : lastQ s ∈ s.q := getD_mem' default (by omega)
  have hb := (h.qs _).1 hmem
  refine ⟨⟨hb.1, hb.2.1⟩, fun he => ?_, h2, h3, (pathF_spec hp.pv h n (s.q.length - 1) (by omega) (by omega)).1⟩
  have e0 : s.q.getD (s.q.length - 1) default = s.q.getD 0 default := by rw [h.q0.2]; exact he
  have l1 : s.q.length - 1 < s.q.length := by omega
  have l0 : 0 < s.q.length := h.q0.1
  have e1 : s.q[s.q.length - 1] = s.q[0] := by simpa [l1, l0] using e0
  have := (List.getElem_inj h.nodup).1 e1
  omega
/-- What a move keeps, and what it brings. -/
theorem findP_some (hp : okP n k xs p) (ha : 0 ≤ a ∧ a < n) (hb : 0 ≤ b ∧ b < n) (hab : a ≠ b) {y : PS} (h : findP n xs p a b = some y) : okP n k xs y ∧ y.pl = p.pl ∧ gI y.f a = gI p.f a + 1 ∧ gI y.f b = gI p.f b := by
  unfold findP at h
  split at h
  · rename_i hs
    injection h with h
    subst h
    obtain ⟨hw, _, hf⟩ := findR_spec (b := b) hp ha
    have hU := foundU hp hw (hf hs)
    obtain ⟨u0, ua, ub, up, path⟩ := hU
    have hfl := hp.fl
    have hat := fun v hv => moveF_at p.f (lastQ (findR n xs p a b).1) a v u0.1 ha.1 hv (by omega) (by omega) ua
    refine ⟨⟨?_, ?_, ?_, ?_, hp.asc⟩, rfl, ?_, ?_⟩
    · show (moveF _ _ _).length = n
      rw [moveF_len, hfl]
    · exact flipP_pv _ _ _ hp.pv path
    · intro v hv hvn
      show 0 ≤ gI (moveF _ _ _) v
      rw [hat v hv]
      have := hp.pos v hv hvn
      by_cases hu : lastQ (findR n xs p a b).1 = v
      · rw [hu] at up; split <;> split <;> omega
      · split <;> split <;> omega
    · intro v hv hvn
      show gI (moveF _ _ _) v + ((flipP _ _ _).count v : Int) = k
      rw [hat v hv, flipP_count v _ _ _ hp.pv.tl path]
      have := hp.sum v hv hvn
      split <;> split <;> omega
    · show gI (moveF _ _ _) a = _
      rw [hat a ha.1, if_neg ua, if_pos rfl]; omega
    · show gI (moveF _ _ _) b = _
      rw [hat b hb.1, if_neg ub, if_neg hab]; omega
  · cases h
/-- Where no move is: a set of points that no bar leaves, with no free pebble but at a and b. -/
theorem findP_none (hp : okP n k xs p) (ha : 0 ≤ a ∧ a < n) (h : findP n xs p a b = none) : ∃ V : Int → Bool, V a = true ∧ (∀ v, V v = true → 0 ≤ v ∧ v < n) ∧ (∀ v, V v = true → v ≠ a → v = b ∨ gI p.f v ≤ 0) ∧ ∀ j, j < p.pl.length → V (p.t.getD j default) = true → V (othB (brP xs p.pl j) (p.t.getD j default)) = true := by
  unfold findP at h
  split at h
  · cases h
  · rename_i hs
    have hs : (findR n xs p a b).2 = false := by simpa using hs
    obtain ⟨hw, hn, _⟩ := findR_spec (b := b) hp ha
    obtain ⟨hD, hC⟩ := hn hs
    refine ⟨fun v => decide (v ∈ (findR n xs p a b).1.q), ?_, ?_, ?_, ?_⟩
    · have := getD_mem' default hw.q0.1
      rw [hw.q0.2] at this
      simpa using this
    · intro v hv
      have := (hw.qs v).1 (of_decide_eq_true hv)
      exact ⟨this.1, this.2.1⟩
    · intro v hv hne
      exact hD v (of_decide_eq_true hv) hne
    · intro j hj hv
      have h1 := hC _ (of_decide_eq_true hv) j hj rfl
      obtain ⟨o1, o2, _⟩ := hp.pv.oth hj
      exact decide_eq_true ((hw.qs _).2 ⟨o1, o2, h1⟩)
end

/-! ### Pebbles gathered -/
def gathP (n : Nat) (xs : List (Int × Int)) (a b want : Int) : Nat → PS → PS × Bool
  | 0, p => (p, false)
  | r + 1, p =>
    if gI p.f a + gI p.f b < want then
      match findP n xs p a b with
      | some y => gathP n xs a b want r y
      | none => match findP n xs p b a with
        | some y => gathP n xs a b want r y
        | none => (p, false)
    else (p, true)
section
variable {n : Nat} {k : Int} {xs : List (Int × Int)} {a b want : Int}
theorem gathP_spec (ha : 0 ≤ a ∧ a < n) (hb : 0 ≤ b ∧ b < n) (hab : a ≠ b) : ∀ (r : Nat) (p : PS), okP n k xs p → want - (gI p.f a + gI p.f b) < r →
    okP n k xs (gathP n xs a b want r p).1 ∧ (gathP n xs a b want r p).1.pl = p.pl ∧
    ((gathP n xs a b want r p).2 = true → want ≤ gI (gathP n xs a b want r p).1.f a + gI (gathP n xs a b want r p).1.f b) ∧
    ((gathP n xs a b want r p).2 = false → 0 < r → gI (gathP n xs a b want r p).1.f a + gI (gathP n xs a b want r p).1.f b < want ∧ findP n xs (gathP n xs a b want r p).1 a b = none ∧ findP n xs (gathP n xs a b want r p).1 b a = none)
  | 0, p, hp, _ => ⟨hp, rfl, fun h => (by cases h), fun _ h => (by omega)⟩
  | r + 1, p, hp, hr => by
    unfold gathP
    by_cases hw : gI p.f a + gI p.f b < want
    · rw [if_pos hw]
      cases h1 : findP n xs p a b with
      | some y =>
        obtain ⟨g1, g2, g3, g4⟩ := findP_some hp ha hb hab h1
        obtain ⟨e1, e2, e3, e4⟩ := gathP_spec ha hb hab r y g1 (by omega)
        exact ⟨e1, e2.trans g2, e3, fun hh _ => e4 hh (by
          rcases Nat.eq_zero_or_pos r with h0 | h0
          · omega
          · exact h0)⟩
      | none =>
        cases h2 : findP n xs p b a with
        | some y =>
          obtain ⟨g1, g2, g3, g4⟩ := findP_some hp hb ha (Ne.symm hab) h2
          obtain ⟨e1, e2, e3, e4⟩ := gathP_spec ha hb hab r y g1 (by omega)
          exact ⟨e1, e2.trans g2, e3, fun hh _ => e4 hh (by
            rcases Nat.eq_zero_or_pos r with h0 | h0
            · omega
            · exact h0)⟩
        | none => exact ⟨hp, rfl, fun hh => (by cases hh), fun _ _ => ⟨hw, h1, h2⟩⟩
    · rw [if_neg hw]
      exact ⟨hp, rfl, fun _ => (show want ≤ gI p.f a + gI p.f b by omega), fun hh => by cases hh⟩
end
end Go.Proofs.Ytpojkjabngkfgaa
