/- Sets of bars: their ranks, with and without a bar. No program in sight. -/
import Derived.Test.YtmnaohimnladnaaMx
namespace Go.Proofs.Ytmnaohimnladnaa

/-- The rank of a set of bars, as the program tells it. -/
def rsI (n k l : Int) (xs : List (Int × Int)) (s : List Int) : Int := if isG n xs then rankI n k l (onlyP (fun j => decide (j ∈ s)) xs xs.length) else -1
theorem rsI_congr {n k l : Int} {xs : List (Int × Int)} {s t : List Int} (h : ∀ j, j ∈ s ↔ j ∈ t) : rsI n k l xs s = rsI n k l xs t := by
  unfold rsI
  rw [show (fun j => decide (j ∈ s)) = (fun j => decide (j ∈ t)) from funext fun j => decide_eq_decide.2 (h j)]
theorem rsI_rng (n k l : Int) (xs : List (Int × Int)) (s : List Int) : -1 ≤ rsI n k l xs s ∧ rsI n k l xs s ≤ 24 := by
  have := rankI_rng n k l (onlyP (fun j => decide (j ∈ s)) xs xs.length)
  unfold rsI
  split <;> omega
theorem rsI_no {n k l : Int} {xs : List (Int × Int)} {s : List Int} (h : ¬ (isG n xs ∧ (1 ≤ k ∧ k ≤ 3 ∧ 0 ≤ l ∧ l < 2 * k))) : rsI n k l xs s = -1 := by
  unfold rsI
  split
  · rename_i hg
    unfold rankI
    rw [if_neg (fun hh => h ⟨hg, hh.2⟩)]
  · rfl

def stOk (xs : List (Int × Int)) (s : List Int) (i : Nat) : Prop := (0 ≤ s.getD i default ∧ s.getD i default ≤ (xs.length : Int) - 1) ∧ (0 < i → s.getD (i - 1) default < s.getD i default)
def isSt (n : Int) (xs : List (Int × Int)) (s : List Int) : Prop := (∀ i, i < s.length → stOk xs s i) ∧ isG n xs
instance (n : Int) (xs : List (Int × Int)) (s : List Int) : Decidable (isSt n xs s) := by unfold isSt stOk; infer_instance
def indI (n k l : Int) (xs : List (Int × Int)) (s : List Int) : Prop := isSt n xs s ∧ (1 ≤ k ∧ k ≤ 3 ∧ 0 ≤ l ∧ l < 2 * k) ∧ rsI n k l xs s = s.length
instance (n k l : Int) (xs : List (Int × Int)) (s : List Int) : Decidable (indI n k l xs s) := by unfold indI; infer_instance
theorem ascS_lt {s : List Int} (h : ∀ i, i < s.length → 0 < i → s.getD (i - 1) default < s.getD i default) : ∀ j i, i < j → j < s.length → s.getD i default < s.getD j default
  | 0, _, h1, _ => by omega
  | j + 1, i, h1, h2 => by
    have h3 := h (j + 1) h2 (by omega)
    rw [Nat.add_sub_cancel] at h3
    rcases Nat.lt_or_ge i j with h4 | h4
    · have := ascS_lt h j i h4 (by omega); omega
    · rw [show i = j by omega]; exact h3
theorem getD_el {α} [Inhabited α] {s : List α} {i : Nat} (h : i < s.length) : s.getD i default = s[i] := by
  rw [List.getD_eq_getElem?_getD, List.getElem?_eq_getElem h]; rfl
theorem isSt_iff {n : Int} {xs : List (Int × Int)} {s : List Int} : isSt n xs s ↔ isG n xs ∧ s.Pairwise (· < ·) ∧ ∀ z ∈ s, 0 ≤ z ∧ z < xs.length := by
  constructor
  · rintro ⟨h1, h2⟩
    refine ⟨h2, List.pairwise_iff_getElem.2 fun i j hi hj hij => ?_, fun z hz => ?_⟩
    · have := ascS_lt (fun i hi h0 => (h1 i hi).2 h0) j i hij hj
      rwa [getD_el hi, getD_el hj] at this
    · obtain ⟨i, hi, rfl⟩ := List.mem_iff_getElem.1 hz
      have := (h1 i hi).1
      rw [getD_el hi] at this
      omega
  · rintro ⟨h1, h2, h3⟩
    refine ⟨fun i hi => ⟨?_, fun h0 => ?_⟩, h1⟩
    · have := h3 _ (List.getElem_mem hi)
      rw [getD_el hi]; omega
    · rw [getD_el hi, getD_el (show i - 1 < s.length by omega)]
      exact List.pairwise_iff_getElem.1 h2 (i - 1) i (by omega) hi (by omega)
theorem isSt_sub {n : Int} {xs : List (Int × Int)} {s t : List Int} (h : isSt n xs s) (hs : t.Sublist s) : isSt n xs t := by
  rw [isSt_iff] at h ⊢
  exact ⟨h.1, h.2.1.sublist hs, fun z hz => h.2.2 z (hs.subset hz)⟩

theorem isSt_len {n : Int} {xs : List (Int × Int)} {s : List Int} (h : isSt n xs s) : s.length ≤ xs.length := by
  have key : ∀ i, i < s.length → (i : Int) ≤ s.getD i default := by
    intro i
    induction i with
    | zero => intro hi; have := (h.1 0 hi).1.1; omega
    | succ i ih =>
      intro hi
      have h1 := ih (by omega)
      have h2 := (h.1 (i + 1) hi).2 (by omega)
      rw [Nat.add_sub_cancel] at h2
      omega
  rcases Nat.eq_zero_or_pos s.length with h0 | h0
  · omega
  · have h1 := key (s.length - 1) (by omega)
    have h2 := (h.1 (s.length - 1) (by omega)).1.2
    omega

/-! ### Without a number -/
def woL (s : List Int) (x : Int) (c : Nat) : List Int := (s.take c).filter fun y => decide (y ≠ x)
theorem takeS_getD {s : List Int} {c : Nat} (h : c < s.length) : s.take (c + 1) = s.take c ++ [s.getD c default] := by
  rw [List.take_add_one, List.getElem?_eq_getElem h, getD_el h]; rfl
theorem filt_yes {s : List Int} {c : Nat} (p : Int → Bool) (h : c < s.length) (hp : p (s.getD c default) = true) : (s.take (c + 1)).filter p = (s.take c).filter p ++ [s.getD c default] := by
  rw [takeS_getD h, List.filter_append, List.filter_cons, hp]; simp
theorem filt_no {s : List Int} {c : Nat} (p : Int → Bool) (h : c < s.length) (hp : p (s.getD c default) = false) : (s.take (c + 1)).filter p = (s.take c).filter p := by
  rw [takeS_getD h, List.filter_append, List.filter_cons, hp]; simp
theorem filt_len (s : List Int) (c : Nat) (p : Int → Bool) : ((s.take c).filter p).length ≤ c :=
  Nat.le_trans (List.length_filter_le _ _) (by rw [List.length_take]; omega)
theorem wo_at : ∀ (s : List Int), s.Pairwise (· < ·) → ∀ i, i < s.length → s.filter (fun y => decide (y ≠ s.getD i default)) = s.take i ++ s.drop (i + 1)
  | [], _, i, h => by simp at h
  | y :: ys, hp, 0, _ => by
    have h1 := (List.pairwise_cons.1 hp).1
    rw [List.filter_cons]
    simp only [List.getD_cons_zero, ne_eq, not_true, decide_false, List.take_zero, List.drop_succ_cons, List.drop_zero, List.nil_append]
    rw [if_neg (by simp)]
    exact List.filter_eq_self.2 fun z hz => by have := h1 z hz; simp; omega
  | y :: ys, hp, i + 1, h => by
    have h1 := (List.pairwise_cons.1 hp).1
    have h2 : i < ys.length := by simpa using h
    have h3 := wo_at ys (List.pairwise_cons.1 hp).2 i h2
    have h4 := h1 (ys.getD i default) (by rw [getD_el h2]; exact List.getElem_mem h2)
    rw [List.filter_cons]
    simp only [List.getD_cons_succ, List.take_succ_cons, List.drop_succ_cons, List.cons_append]
    rw [if_pos (by simp only [ne_eq, decide_eq_true_eq]; omega), h3]

/-! ### With a number, put in its place -/
def withR (x : Int) : Bool → List Int → List Int
  | p, [] => if p = true then [] else [x]
  | p, y :: ys => if (p || decide (y = x)) = false ∧ x < y then x :: y :: withR x true ys else y :: withR x (p || decide (y = x)) ys
def withL (s : List Int) (x : Int) : List Int := withR x false s
theorem withR_mem (x z : Int) : ∀ (s : List Int) (p : Bool), z ∈ withR x p s ↔ z ∈ s ∨ (p = false ∧ z = x)
  | [], p => by cases p <;> simp [withR]
  | y :: ys, p => by
    unfold withR
    by_cases hy : y = x
    · subst hy
      rw [if_neg (by simp), show (p || decide (y = y)) = true by simp, List.mem_cons, List.mem_cons, withR_mem y z ys true]
      constructor
      · rintro (h | h | h)
        · exact .inl (.inl h)
        · exact .inl (.inr h)
        · cases h.1
      · rintro ((h | h) | h)
        · exact .inl h
        · exact .inr (.inl h)
        · exact .inl h.2
    · by_cases hc : (p || decide (y = x)) = false ∧ x < y
      · rw [if_pos hc, List.mem_cons, List.mem_cons, List.mem_cons, withR_mem x z ys true]
        have hp : p = false := by have := hc.1; cases p <;> simp_all
        constructor
        · rintro (h | h | h | h)
          · exact .inr ⟨hp, h⟩
          · exact .inl (.inl h)
          · exact .inl (.inr h)
          · cases h.1
        · rintro ((h | h) | h)
          · exact .inr (.inl h)
          · exact .inr (.inr (.inl h))
          · exact .inl h.2
      · rw [if_neg hc, show (p || decide (y = x)) = p by simp [hy], List.mem_cons, List.mem_cons, withR_mem x z ys p]
        constructor
        · rintro (h | h | h)
          · exact .inl (.inl h)
          · exact .inl (.inr h)
          · exact .inr h
        · rintro ((h | h) | h)
          · exact .inl h
          · exact .inr (.inl h)
          · exact .inr (.inr h)
theorem withL_mem (s : List Int) (x z : Int) : z ∈ withL s x ↔ z ∈ s ∨ z = x := by
  unfold withL; rw [withR_mem]; simp
theorem withR_len (x : Int) : ∀ (s : List Int) (p : Bool), (withR x p s).length ≤ s.length + 1
  | [], p => by cases p <;> simp [withR]
  | y :: ys, p => by
    unfold withR
    split
    · rename_i h
      have hp : ∀ zs : List Int, (withR x true zs).length ≤ zs.length := by
        intro zs
        induction zs with
        | nil => simp [withR]
        | cons a as ih => unfold withR; rw [if_neg (by simp)]; simpa using ih
      have := hp ys
      simp only [List.length_cons]; omega
    · have := withR_len x ys (p || decide (y = x))
      simp only [List.length_cons]; omega
theorem withL_len (s : List Int) (x : Int) : (withL s x).length ≤ s.length + 1 := withR_len x s false
theorem withL_last (x : Int) : ∀ s : List Int, (∀ z ∈ s, z < x) → withL s x = s ++ [x]
  | [], _ => rfl
  | y :: ys, h => by
    have h0 := h y (List.mem_cons_self ..)
    have h1 := withL_last x ys (fun z hz => h z (List.mem_cons_of_mem _ hz))
    unfold withL at h1 ⊢
    rw [withR, if_neg (by intro hh; omega), show (false || decide (y = x)) = false by simp; omega, h1]; rfl
theorem withL_before (x b : Int) (hxb : x < b) : ∀ s : List Int, (∀ z ∈ s, z < x) → withL (s ++ [b]) x = s ++ [x] ++ [b]
  | [], _ => by unfold withL; rw [List.nil_append, withR, if_pos ⟨by simp; omega, hxb⟩]; rfl
  | y :: ys, h => by
    have h0 := h y (List.mem_cons_self ..)
    have h1 := withL_before x b hxb ys (fun z hz => h z (List.mem_cons_of_mem _ hz))
    unfold withL at h1 ⊢
    rw [List.cons_append, withR, if_neg (by intro hh; omega), show (false || decide (y = x)) = false by simp; omega, h1]; rfl
/-- What a loop that puts a number in its place goes through. -/
def wiR (x : Int) (p : Bool) (out r : List Int) : List Int := out ++ withR x p r
theorem wi_put {s out : List Int} {x : Int} {c : Nat} {p : Bool} (h : c < s.length) (hp : (p || decide (s.getD c default = x)) = false) (hx : x < s.getD c default) : wiR x true (out ++ [x] ++ [s.getD c default]) (s.drop (c + 1)) = wiR x p out (s.drop c) := by
  unfold wiR
  rw [show s.drop c = s.getD c default :: s.drop (c + 1) by rw [List.drop_eq_getElem_cons h, getD_el h], withR, if_pos ⟨hp, hx⟩]; simp
theorem wi_go {s out : List Int} {x : Int} {c : Nat} {p : Bool} (h : c < s.length) (hn : ¬ ((p || decide (s.getD c default = x)) = false ∧ x < s.getD c default)) : wiR x (p || decide (s.getD c default = x)) (out ++ [s.getD c default]) (s.drop (c + 1)) = wiR x p out (s.drop c) := by
  unfold wiR
  rw [show s.drop c = s.getD c default :: s.drop (c + 1) by rw [List.drop_eq_getElem_cons h, getD_el h], withR, if_neg hn]; simp
theorem wi_end {s out : List Int} {x : Int} {c : Nat} {p : Bool} (h : ¬ c < s.length) : wiR x p out (s.drop c) = if p = true then out else out ++ [x] := by
  unfold wiR
  rw [List.drop_eq_nil_of_le (by omega)]; cases p <;> simp [withR]

/-! ### Circuits, closures, bridges: what the program hands back -/
def rtL (s : List Int) (i : Nat) : List Int := s.take i ++ s.drop (i + 1)
theorem rtL_len {s : List Int} {i : Nat} (h : i < s.length) : (rtL s i).length = s.length - 1 := by
  unfold rtL; rw [List.length_append, List.length_take, List.length_drop]; omega
theorem rtL_sub (s : List Int) (i : Nat) : (rtL s i).Sublist s := by
  unfold rtL; rw [← List.eraseIdx_eq_take_drop_succ]; exact List.eraseIdx_sublist _ _
def circI (n k l : Int) (xs : List (Int × Int)) (s : List Int) : Prop := isSt n xs s ∧ (1 ≤ k ∧ k ≤ 3 ∧ 0 ≤ l ∧ l < 2 * k) ∧ rsI n k l xs s ≠ s.length ∧ ∀ i, i < s.length → rsI n k l xs (rtL s i) = (s.length : Int) - 1
instance (n k l : Int) (xs : List (Int × Int)) (s : List Int) : Decidable (circI n k l xs s) := by unfold circI; infer_instance
theorem wo_rt {n : Int} {xs : List (Int × Int)} {s : List Int} (h : isSt n xs s) {i : Nat} (hi : i < s.length) : s.filter (fun y => decide (y ≠ s.getD i default)) = rtL s i :=
  wo_at s (isSt_iff.1 h).2.1 i hi
theorem ind_rt {n k l : Int} {xs : List (Int × Int)} {s : List Int} (h : isSt n xs s) (hr : 1 ≤ k ∧ k ≤ 3 ∧ 0 ≤ l ∧ l < 2 * k) {i : Nat} (hi : i < s.length) : indI n k l xs (rtL s i) ↔ rsI n k l xs (rtL s i) = (s.length : Int) - 1 := by
  unfold indI
  rw [rtL_len hi, show ((s.length - 1 : Nat) : Int) = (s.length : Int) - 1 by omega]
  exact ⟨fun hh => hh.2.2, fun hh => ⟨isSt_sub h (rtL_sub s i), hr, hh⟩⟩
def cloF (n k l : Int) (xs : List (Int × Int)) (s : List Int) (e : Nat) : Bool := decide (rsI n k l xs (s ++ [(e : Int)]) = rsI n k l xs s)
def cloI (n k l : Int) (xs : List (Int × Int)) (s : List Int) : List Int := if isSt n xs s ∧ (1 ≤ k ∧ k ≤ 3 ∧ 0 ≤ l ∧ l < 2 * k) then pickIx (cloF n k l xs s) xs.length else []
theorem clo_with (n k l : Int) (xs : List (Int × Int)) (s : List Int) (e : Int) : rsI n k l xs (withL s e) = rsI n k l xs (s ++ [e]) := rsI_congr fun j => by rw [withL_mem, List.mem_append, List.mem_singleton]
theorem cloI_len (n k l : Int) (xs : List (Int × Int)) (s : List Int) : (cloI n k l xs s).length ≤ xs.length := by
  unfold cloI; split
  · exact pickIx_le _ _
  · simp
def briF (n k l : Int) (xs : List (Int × Int)) (e : Nat) : Bool := decide (rankI n k l (rmB n xs e) < rankI n k l xs)
def briI (n k l : Int) (xs : List (Int × Int)) : List Int := if 0 ≤ rankI n k l xs then pickIx (briF n k l xs) xs.length else []
theorem briI_len (n k l : Int) (xs : List (Int × Int)) : (briI n k l xs).length ≤ xs.length := by
  unfold briI; split
  · exact pickIx_le _ _
  · simp
def selP (f : Nat → Bool) (b : List Int) (i : Nat) : List Int := (List.range i).flatMap fun (j : Nat) => if f j = true then [b.getD j default] else []
theorem selP_zero (f : Nat → Bool) (b : List Int) : selP f b 0 = [] := by simp [selP]
theorem selP_yes (f : Nat → Bool) (b : List Int) (i : Nat) (h : f i = true) : selP f b (i + 1) = selP f b i ++ [b.getD i default] := by
  unfold selP; rw [List.range_succ, List.flatMap_append]; simp [h]
theorem selP_no (f : Nat → Bool) (b : List Int) (i : Nat) (h : ¬ f i = true) : selP f b (i + 1) = selP f b i := by
  unfold selP; rw [List.range_succ, List.flatMap_append]; simp [h]
theorem selP_le (f : Nat → Bool) (b : List Int) : ∀ i, (selP f b i).length ≤ i
  | 0 => by simp [selP]
  | i + 1 => by
    have := selP_le f b i
    by_cases h : f i = true
    · rw [selP_yes f b i h]; simp; omega
    · rw [selP_no f b i h]; omega
theorem selP_mem (f : Nat → Bool) (b : List Int) (z : Int) (i : Nat) (h : z ∈ selP f b i) : ∃ j, j < i ∧ z = b.getD j default := by
  unfold selP at h
  obtain ⟨j, hj, hz⟩ := List.mem_flatMap.1 h
  refine ⟨j, by simpa using hj, ?_⟩
  split at hz
  · simpa using hz
  · simp at hz
def basL (n k l : Int) (xs : List (Int × Int)) (bar : Int) (c : Nat) : List Int := ((runP n k l xs).pl.take c).filter fun e => decide (e < bar)
def basA (n k l : Int) (xs : List (Int × Int)) (bar : Int) : List Int := basL n k l xs bar (runP n k l xs).pl.length
theorem basA_len (n k l : Int) (xs : List (Int × Int)) (bar : Int) : (basA n k l xs bar).length ≤ 24 := by
  have := filt_len (runP n k l xs).pl (runP n k l xs).pl.length (fun e => decide (e < bar))
  have h2 := (runP_len n k l xs).2.2
  unfold basA basL; omega
def cirF (n k l : Int) (xs : List (Int × Int)) (bar : Int) (i : Nat) : Bool := decide (rsI n k l xs (rtL (basA n k l xs bar) i ++ [bar]) = ((basA n k l xs bar).length : Int))
def cirOk (n k l : Int) (xs : List (Int × Int)) (bar : Int) : Prop := bar ∈ pickIx (rejF n k l xs) xs.length
instance (n k l : Int) (xs : List (Int × Int)) (bar : Int) : Decidable (cirOk n k l xs bar) := by unfold cirOk; infer_instance
def cirI (n k l : Int) (xs : List (Int × Int)) (bar : Int) : List Int := if cirOk n k l xs bar then selP (cirF n k l xs bar) (basA n k l xs bar) (basA n k l xs bar).length ++ [bar] else []
theorem cirI_len (n k l : Int) (xs : List (Int × Int)) (bar : Int) : (cirI n k l xs bar).length ≤ 25 := by
  have h1 := basA_len n k l xs bar
  have h2 := selP_le (cirF n k l xs bar) (basA n k l xs bar) (basA n k l xs bar).length
  unfold cirI
  split
  · rw [List.length_append, List.length_singleton]; omega
  · simp
theorem cir_st {n k l : Int} {xs : List (Int × Int)} {bar : Int} (h : cirOk n k l xs bar) : isSt n xs (basA n k l xs bar ++ [bar]) ∧ (1 ≤ k ∧ k ≤ 3 ∧ 0 ≤ l ∧ l < 2 * k) := by
  obtain ⟨j, hj, hr, rfl⟩ := (mem_pickIx _ _ _).1 h
  have hyes : isG n xs ∧ (1 ≤ k ∧ k ≤ 3 ∧ 0 ≤ l ∧ l < 2 * k) := by
    unfold rejF at hr
    rw [Bool.and_eq_true] at hr
    exact of_decide_eq_true hr.1
  have hru : runP n k l xs = playP n.toNat xs k l xs.length := by unfold runP; rw [if_pos hyes]
  have hok := (play_ok ⟨hyes.2.1, hyes.2.2.1⟩ hyes.2.2.2 (gGood hyes.1) xs.length (Nat.le_refl _)).1
  rw [← hru] at hok
  have hst : isSt n xs (runP n k l xs).pl := ⟨fun i hi => by have := hok.asc i hi; exact ⟨by omega, this.2.2⟩, hyes.1⟩
  refine ⟨isSt_iff.2 ?_, hyes.2⟩
  obtain ⟨h1, h2, h3⟩ := isSt_iff.1 hst
  have hsub : (basA n k l xs (j : Int)).Sublist (runP n k l xs).pl := by unfold basA basL; rw [List.take_length]; exact List.filter_sublist
  refine ⟨h1, List.pairwise_append.2 ⟨h2.sublist hsub, List.pairwise_singleton _ _, fun a ha b hb => ?_⟩, fun z hz => ?_⟩
  · rw [List.mem_singleton] at hb; subst hb
    unfold basA basL at ha
    have := (List.mem_filter.1 ha).2
    exact of_decide_eq_true this
  · rcases List.mem_append.1 hz with hz | hz
    · exact h3 z (hsub.subset hz)
    · rw [List.mem_singleton] at hz; subst hz; omega
theorem cir_lt {n k l : Int} {xs : List (Int × Int)} {bar : Int} (z : Int) (h : z ∈ basA n k l xs bar) : z < bar := by
  unfold basA basL at h
  exact of_decide_eq_true (List.mem_filter.1 h).2
theorem cir_wo {n k l : Int} {xs : List (Int × Int)} {bar : Int} (h : cirOk n k l xs bar) {i : Nat} (hi : i < (basA n k l xs bar).length) :
    (basA n k l xs bar ++ [bar]).filter (fun y => decide (y ≠ (basA n k l xs bar).getD i default)) = rtL (basA n k l xs bar) i ++ [bar] := by
  have hst := (cir_st h).1
  have h1 := isSt_sub hst (List.sublist_append_left _ _)
  have h2 := cir_lt _ (getD_mem' default hi)
  rw [List.filter_append, wo_rt h1 hi, List.filter_cons, if_pos (by simp only [ne_eq, decide_eq_true_eq]; omega)]; rfl
theorem cir_ind {n k l : Int} {xs : List (Int × Int)} {bar : Int} (h : cirOk n k l xs bar) {i : Nat} (hi : i < (basA n k l xs bar).length) :
    indI n k l xs (rtL (basA n k l xs bar) i ++ [bar]) ↔ cirF n k l xs bar i = true := by
  have hst := cir_st h
  unfold indI cirF
  rw [decide_eq_true_eq, List.length_append, rtL_len hi, List.length_singleton, show (((basA n k l xs bar).length - 1 + 1 : Nat) : Int) = ((basA n k l xs bar).length : Int) by omega]
  exact ⟨fun hh => hh.2.2, fun hh => ⟨isSt_sub hst.1 ((rtL_sub _ i).append (List.Sublist.refl _)), hst.2, hh⟩⟩
theorem cir_put {n k l : Int} {xs : List (Int × Int)} {bar : Int} (h : cirOk n k l xs bar) {i : Nat} (hi : i < (basA n k l xs bar).length) (f : Nat → Bool) :
    withL (selP f (basA n k l xs bar) i ++ [bar]) ((basA n k l xs bar).getD i default) = selP f (basA n k l xs bar) i ++ [(basA n k l xs bar).getD i default] ++ [bar] := by
  have hst := isSt_sub (cir_st h).1 (List.sublist_append_left _ _)
  refine withL_before _ _ (cir_lt _ (getD_mem' default hi)) _ fun z hz => ?_
  obtain ⟨j, hj, rfl⟩ := selP_mem _ _ _ _ hz
  exact ascS_lt (fun i hi h0 => (hst.1 i hi).2 h0) i j hj hi
end Go.Proofs.Ytmnaohimnladnaa
