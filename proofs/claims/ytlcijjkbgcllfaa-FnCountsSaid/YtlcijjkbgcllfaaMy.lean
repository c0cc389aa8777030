/- What the great statements say of the game, of ranks, closures and circuits. No program in sight. -/
import Derived.Test.YtlcijjkbgcllfaaMz
import Derived.Test.YtlcijjkbgcllfaaMw
namespace Go.Proofs.Ytlcijjkbgcllfaa

/-! ### Parts of a graph -/
theorem isG_iff {n : Int} {xs : List (Int × Int)} : isG n xs ↔ (1 ≤ n ∧ n ≤ 8 ∧ xs.length ≤ 24) ∧ (∀ x ∈ xs, 0 ≤ x.1 ∧ x.1 < x.2 ∧ x.2 < n) ∧ xs.Pairwise leB := by
  constructor
  · intro h
    refine ⟨⟨h.1, h.2.1, h.2.2.1⟩, fun x hx => ?_, isG_pairwise h⟩
    obtain ⟨j, hj, rfl⟩ := mem_getD default hx
    exact gBar h j hj
  · rintro ⟨⟨h1, h2, h3⟩, h4, h5⟩
    refine ⟨h1, h2, h3, fun j hj => ?_⟩
    have a := h4 _ (getD_mem' default hj)
    refine ⟨a.1, a.2.1, a.2.2, fun h0 => ?_⟩
    have := List.pairwise_iff_getElem.1 h5 (j - 1) j (by omega) hj (by omega)
    simpa [List.getD_eq_getElem?_getD, List.getElem?_eq_getElem hj, List.getElem?_eq_getElem (show j - 1 < xs.length by omega)] using this
theorem isG_sub {n : Int} {xs zs : List (Int × Int)} (h : isG n xs) (hs : zs.Sublist xs) : isG n zs := by
  rw [isG_iff] at h ⊢
  exact ⟨⟨h.1.1, h.1.2.1, Nat.le_trans hs.length_le h.1.2.2⟩, fun x hx => h.2.1 x (hs.subset hx), h.2.2.sublist hs⟩
theorem sel_sub {α : Type} (xs : List α) (S : Nat → Bool) : (selR xs S).Sublist xs := by
  have := selR_sub xs (fun _ => true) S (fun _ _ _ => rfl)
  rwa [selR_all xs (fun _ => true) (fun _ _ => rfl)] at this
theorem isG_only {n : Int} {xs : List (Int × Int)} (h : isG n xs) (f : Int → Bool) : isG n (onlyP f xs xs.length) := by
  rw [only_sel]; exact isG_sub h (sel_sub _ _)
theorem isG_rm {n : Int} {xs : List (Int × Int)} (h : isG n xs) (i : Int) : isG n (rmB n xs i) := by
  unfold rmB
  split
  · rename_i hh
    exact isG_sub h (by rw [← List.eraseIdx_eq_take_drop_succ]; exact List.eraseIdx_sublist _ _)
  · exact h
theorem isG_put {n : Int} {xs : List (Int × Int)} {x : Int × Int} (h : isG n xs) (hl : xs.length < 24) (hx : 0 ≤ x.1 ∧ x.1 < x.2 ∧ x.2 < n) : isG n (putL xs x) := by
  rw [isG_iff] at h ⊢
  refine ⟨⟨h.1.1, h.1.2.1, by rw [putL_len]; omega⟩, fun y hy => ?_, putL_pairwise x xs h.2.2⟩
  rcases List.mem_append.1 ((putL_perm x xs).subset hy) with hy | hy
  · exact h.2.1 y hy
  · rw [List.mem_singleton] at hy; subst hy; exact hx
theorem cnt_compl (P : Nat → Bool) : ∀ m, cnt m P + cnt m (fun i => !P i) = m
  | 0 => rfl
  | m + 1 => by
    have := cnt_compl P m
    rw [cnt_succ, cnt_succ]
    cases P m <;> simp <;> omega
theorem cnt_tt : ∀ m, cnt m (fun _ => true) = m
  | 0 => rfl
  | m + 1 => by rw [cnt_succ, cnt_tt m]; rfl
theorem pickIx_pairwise (f : Nat → Bool) : ∀ k, (pickIx f k).Pairwise (· < ·)
  | 0 => by rw [pickIx_zero]; exact List.Pairwise.nil
  | k + 1 => by
    by_cases h : f k = true
    · rw [pickIx_yes f k h]
      refine List.pairwise_append.2 ⟨pickIx_pairwise f k, List.pairwise_singleton _ _, fun a ha b hb => ?_⟩
      rw [List.mem_singleton] at hb; subst hb
      obtain ⟨j, hj, _, rfl⟩ := (mem_pickIx f a k).1 ha
      omega
    · rw [pickIx_no f k h]; exact pickIx_pairwise f k

/-! ### The game -/
section
variable {n k l : Int} {xs : List (Int × Int)}
abbrev rngK (k l : Int) : Prop := 1 ≤ k ∧ k ≤ 3 ∧ 0 ≤ l ∧ l < 2 * k
theorem run_ok (hg : isG n xs) (hr : rngK k l) : okP n.toNat k xs (runP n k l xs) ∧ ∀ i, memS (runP n k l xs).pl i = accS xs.length n.toNat k.toNat l.toNat (exs xs) xs.length i := by
  have h := play_ok (n := n) (k := k) (l := l) ⟨hr.1, hr.2.1⟩ hr.2.2 (gGood hg) xs.length (Nat.le_refl _)
  unfold runP
  rw [if_pos ⟨hg, hr⟩]
  exact ⟨h.1, h.2.2⟩
theorem run_isP (hg : isG n xs) (hr : rngK k l) : isP n xs k (runP n k l xs).f (runP n k l xs).t (runP n k l xs).pl := ok_isP hg ⟨hr.1, hr.2.1⟩ (run_ok hg hr).1
theorem acc_rej (hg : isG n xs) (hr : rngK k l) : (runP n k l xs).pl.length + (pickIx (rejF n k l xs) xs.length).length = xs.length := by
  have hp := (run_ok hg hr).1
  have hk : k = ((k.toNat : Nat) : Int) := by have := hr.1; omega
  rw [hk] at hp
  have h1 := cnt_pl hp
  rw [← hk] at h1
  have h2 : cnt xs.length (rejF n k l xs) = cnt xs.length (fun i => !memS (runP n k l xs).pl i) := cnt_congr fun i _ => by
    unfold rejF
    rw [decide_eq_true ⟨hg, hr⟩]; rfl
  rw [pickIx_len, ← h1, h2]
  exact cnt_compl _ _
theorem fpS_isum (f : List Int) (h : ∀ i : Nat, i < f.length → 0 ≤ gI f (i : Int) ∧ gI f (i : Int) ≤ 3) : ∀ m, m ≤ f.length → fpS f m = isum m (fun i => gI f (i : Int))
  | 0, _ => fpS_zero f
  | m + 1, hm => by
    have h1 := h m (by omega)
    rw [fpS_succ f m (by omega), fpS_isum f h m (by omega)]
    show _ = isum m _ + gI f (m : Int)
    unfold gI at h1 ⊢
    rw [Int.toNat_natCast] at h1 ⊢
    omega
theorem free_sum {p : PS} (hg : isG n xs) (hk : 1 ≤ k ∧ k ≤ 3) (hp : okP n.toNat k xs p) : fpI p.f + (p.pl.length : Int) = k * n := by
  have hn := hg.1
  have hn8 := hg.2.1
  have hkk : k = ((k.toNat : Nat) : Int) := by omega
  have hp' := hp
  rw [hkk] at hp'
  have h1 := pebbles_sum hp' (fun _ => true)
  have hsz : sz n.toNat (fun _ => true) = n.toNat := cnt_tt _
  rw [hsz, ← hkk, List.countP_true, hp.pv.tl] at h1
  have h2 := fpS_isum p.f (fun i hi => by
    have := fv_rng hp (v := (i : Int)) (by omega) (by rw [hp.fl] at hi; omega)
    omega) p.f.length (Nat.le_refl _)
  have hfl := hp.fl
  unfold fpI
  rw [if_pos (by omega), h2, hfl]
  simp only [if_true] at h1
  rw [show ((n.toNat : Nat) : Int) = n by omega] at h1
  exact h1
theorem sparse_rk (hg : isG n xs) (hr : rngK k l) : ovI n k l xs = none ↔ IndL n.toNat k.toNat l.toNat xs := by
  have e1 : n = ((n.toNat : Nat) : Int) := by have := hg.1; omega
  have e2 : k = ((k.toNat : Nat) : Int) := by have := hr.1; omega
  have e3 : l = ((l.toNat : Nat) : Int) := by have := hr.2.2.1; omega
  have hg' := hg
  rw [e1] at hg'
  have hr' := hr
  unfold rngK at hr'
  rw [e2, e3] at hr'
  have := ov_sparse (n := n.toNat) (k := k.toNat) (l := l.toNat) hg' hr'
  rwa [← e1, ← e2, ← e3] at this
theorem rank_rk (hg : isG n xs) (hr : rngK k l) : (runP n k l xs).pl.length = rk n.toNat k.toNat l.toNat xs := by
  have e2 : ((k.toNat : Nat) : Int) = k := by have := hr.1; omega
  have e3 : ((l.toNat : Nat) : Int) = l := by have := hr.2.2.1; omega
  unfold runP rk
  rw [if_pos ⟨hg, hr⟩, e2, e3]
theorem rng_nat (hr : rngK k l) : l.toNat < 2 * k.toNat ∧ k.toNat ≤ 3 := by
  have := hr.1; have := hr.2.1; have := hr.2.2.1; have := hr.2.2.2
  omega
theorem sparse_rej (hg : isG n xs) (hr : rngK k l) : ovI n k l xs = none ↔ (pickIx (rejF n k l xs) xs.length).length = 0 := by
  have h1 := acc_rej hg hr
  rw [sparse_rk hg hr, ← rk_full (rng_nat hr).1 (rng_nat hr).2 (gGood hg), ← rank_rk hg hr]
  omega
theorem acc_sparse (hg : isG n xs) (hr : rngK k l) : ovI n k l (onlyP (fun j => decide (j ∈ (runP n k l xs).pl)) xs xs.length) = none := by
  rw [sparse_rk (isG_only hg _) hr, only_sel, indL_sel]
  have h := (run_ok hg hr).2
  have : (fun i : Nat => decide ((i : Int) ∈ (runP n k l xs).pl)) = accS xs.length n.toNat k.toNat l.toNat (exs xs) xs.length := funext h
  rw [this]
  exact accS_ind _
/-! ### Counts -/
theorem rm_sub (n : Int) (xs : List (Int × Int)) (i : Int) : (rmB n xs i).Sublist xs := by
  unfold rmB
  split
  · rw [← List.eraseIdx_eq_take_drop_succ]; exact List.eraseIdx_sublist _ _
  · exact List.Sublist.refl _
theorem over_span (h : (ovI n k l xs).isSome = true) : ¬ ((pickIx (spF (ovL n k l xs) xs) xs.length).length : Int) ≤ k * ((ovL n k l xs).length : Int) - l := by
  obtain ⟨mask, hm⟩ := Option.isSome_iff_exists.1 h
  have h1 : ovL n k l xs = setL n.toNat mask := by unfold ovL; rw [hm]
  have hg : isG n xs ∧ rngK k l := by
    unfold ovI at hm
    split at hm
    · assumption
    · cases hm
  unfold ovI at hm
  rw [if_pos hg] at hm
  have h2 := (ovScan_some _ _ _ hm).1.2
  rw [h1, span_set hg.1 mask, setL_len]
  omega
theorem mul_small {k : Int} {n : Nat} (h1 : 0 ≤ k ∧ k ≤ 4) (h2 : n ≤ 100) : 0 ≤ k * (n : Int) ∧ k * (n : Int) ≤ 400 := by
  have hk : k = 0 ∨ k = 1 ∨ k = 2 ∨ k = 3 ∨ k = 4 := by omega
  rcases hk with rfl | rfl | rfl | rfl | rfl <;> omega
theorem sparse_rm (h : (isG n xs ∧ rngK k l) ∧ ovI n k l xs = none) (i : Int) : (isG n (rmB n xs i) ∧ rngK k l) ∧ ovI n k l (rmB n xs i) = none := by
  have hg := isG_rm h.1.1 i
  refine ⟨⟨hg, h.1.2⟩, ?_⟩
  rw [sparse_rk hg h.1.2]
  exact ((sparse_rk h.1.1 h.1.2).1 h.2).sub (rm_sub n xs i)
theorem sparse_22 (hk : k = 2) (hl : l = 3) (h : (isG n xs ∧ rngK k l) ∧ ovI n k l xs = none) : (isG n xs ∧ rngK 2 2) ∧ ovI n 2 2 xs = none := by
  subst hk hl
  have hr : rngK 2 2 := ⟨by decide, by decide, by decide, by decide⟩
  refine ⟨⟨h.1.1, hr⟩, ?_⟩
  rw [sparse_rk h.1.1 hr]
  intro V hV
  have h1 := (sparse_rk h.1.1 h.1.2).1 h.2 V hV
  exact Nat.le_trans (Nat.add_le_add_left (by decide) _) h1
/-- What pebbles gathered keep. -/
theorem gp_facts {f t pl : List Int} {a b want : Int} (h : (gpI n xs k f t pl a b want).2 = true) : (isP n xs k (gpI n xs k f t pl a b want).1.f (gpI n xs k f t pl a b want).1.t (gpI n xs k f t pl a b want).1.pl ∧ fpI (gpI n xs k f t pl a b want).1.f = fpI f) ∧
    (0 ≤ a ∧ a < f.length ∧ 0 ≤ b ∧ b < f.length) ∧ ¬ gI (gpI n xs k f t pl a b want).1.f a + gI (gpI n xs k f t pl a b want).1.f b < want := by
  unfold gpI at h ⊢
  split
  · rename_i hh
    obtain ⟨⟨h1, h2, h3, h4, h5⟩, h6⟩ := hh
    have hp := isP_ok h1
    have hk3 := h1.2.1
    have hn1 := h1.1.1
    have hfl := h1.2.2.1
    have hgs := gathP_spec (n := n.toNat) (k := k) (xs := xs) (a := a) (b := b) (want := want) (by omega) (by omega) h4 8 ⟨f, t, pl⟩ hp (by have h1 := hp.pos a (by omega) (by omega); have h2 := hp.pos b (by omega) (by omega); simp only at h1 h2 ⊢; omega)
    refine ⟨⟨ok_isP h1.1 hk3 hgs.1, ?_⟩, by omega, ?_⟩
    · have a1 := free_sum h1.1 hk3 hgs.1
      have a2 := free_sum h1.1 hk3 hp
      have e0 := hgs.2.1
      simp only at a2 e0
      rw [e0] at a1
      omega
    · have := hgs.2.2.1 h6
      omega
  · rename_i hh
    rw [if_neg hh] at h; cases h

/-! ### Ranks of sets -/
theorem rank_sel (hg : isG n xs) (hr : rngK k l) (f : Int → Bool) : rankI n k l (onlyP f xs xs.length) = (rkS n.toNat k.toNat l.toNat xs (fun i => f (i : Int)) : Int) := by
  have h := isG_only hg f
  unfold rankI rkS
  rw [if_pos ⟨h, hr⟩, rank_rk h hr, only_sel]
theorem rank_all (hg : isG n xs) (hr : rngK k l) : rankI n k l xs = (rkS n.toNat k.toNat l.toNat xs (fun _ => true) : Int) := by
  unfold rankI rkS
  rw [if_pos ⟨hg, hr⟩, rank_rk hg hr, selR_all _ _ (fun _ _ => rfl)]
theorem rsI_rk (hg : isG n xs) (hr : rngK k l) (s : List Int) : rsI n k l xs s = (rkS n.toNat k.toNat l.toNat xs (memS s) : Int) := by
  unfold rsI
  rw [if_pos hg, rank_sel hg hr]; rfl
theorem memS_snoc (s : List Int) (e : Nat) : memS (s ++ [(e : Int)]) = addS (memS s) e := by
  funext i
  unfold memS addS
  rw [show decide ((i : Int) ∈ s ++ [(e : Int)]) = (decide ((i : Int) ∈ s) || decide ((i : Int) = (e : Int))) by simp [List.mem_append]]
  congr 1
  by_cases h : i = e
  · subst h; simp
  · have : ¬ (i : Int) = (e : Int) := by omega
    simp [h, this]
theorem cloF_iff (hg : isG n xs) (hr : rngK k l) (s : List Int) (e : Nat) : cloF n k l xs s e = true ↔ rkS n.toNat k.toNat l.toNat xs (addS (memS s) e) = rkS n.toNat k.toNat l.toNat xs (memS s) := by
  unfold cloF
  rw [decide_eq_true_eq, rsI_rk hg hr, rsI_rk hg hr, memS_snoc]
  omega
theorem memS_pick (f : Nat → Bool) {m i : Nat} (h : i < m) : memS (pickIx f m) i = f i := by
  unfold memS
  cases hf : f i with
  | true => exact decide_eq_true ((mem_pickIx f _ m).2 ⟨i, h, hf, rfl⟩)
  | false =>
    refine decide_eq_false fun hm => ?_
    obtain ⟨j, _, hj, hij⟩ := (mem_pickIx f _ m).1 hm
    rw [show i = j by omega, hj] at hf; cases hf
theorem st_pick (hg : isG n xs) (f : Nat → Bool) : isSt n xs (pickIx f xs.length) := by
  refine isSt_iff.2 ⟨hg, pickIx_pairwise _ _, fun z hz => ?_⟩
  obtain ⟨j, hj, _, rfl⟩ := (mem_pickIx f z _).1 hz
  omega
/-- A closure is closed, and of the same rank. -/
theorem clo_facts {s : List Int} (hst : isSt n xs s) (hr : rngK k l) : isSt n xs (cloI n k l xs s) ∧ cloI n k l xs (cloI n k l xs s) = cloI n k l xs s ∧ rsI n k l xs (cloI n k l xs s) = rsI n k l xs s := by
  have hg := hst.2
  have hc : cloI n k l xs s = pickIx (cloF n k l xs s) xs.length := by unfold cloI; rw [if_pos ⟨hst, hr⟩]
  have hT : ∀ e, e < xs.length → (memS (cloI n k l xs s) e = true ↔ rkS n.toNat k.toNat l.toNat xs (addS (memS s) e) = rkS n.toNat k.toNat l.toNat xs (memS s)) := by
    intro e he
    rw [hc, memS_pick _ he, cloF_iff hg hr]
  have hs : ∀ i, i < xs.length → memS s i = true → memS (cloI n k l xs s) i = true := by
    intro i hi h
    rw [hT i hi]
    refine rkS_congr fun j _ => ?_
    by_cases hj : j = i
    · subst hj; simp [addS, h]
    · simp [addS, nbeq hj]
  have hst2 : isSt n xs (cloI n k l xs s) := by rw [hc]; exact st_pick hg _
  refine ⟨hst2, ?_, ?_⟩
  · have hc2 : cloI n k l xs (cloI n k l xs s) = pickIx (cloF n k l xs (cloI n k l xs s)) xs.length := by
      show (if _ then _ else _) = _
      rw [if_pos ⟨hst2, hr⟩]
    rw [hc2]
    conv => rhs; rw [hc]
    refine pickIx_congr _ fun j hj => ?_
    have h1 := closure_closed (rng_nat hr).1 (rng_nat hr).2 (gGood hg) hs hT hj
    rw [← cloF_iff hg hr, hT j hj, ← cloF_iff hg hr] at h1
    exact Bool.eq_iff_iff.2 h1
  · rw [rsI_rk hg hr, rsI_rk hg hr, closure_rank (rng_nat hr).1 (rng_nat hr).2 (gGood hg) hs (fun e he h => (hT e he).1 h)]

theorem clo_pos {s : List Int} (h : ((cloI n k l xs s).length : Int) > 0) : cloI n k l xs (cloI n k l xs s) = cloI n k l xs s ∧ rsI n k l xs (cloI n k l xs s) = rsI n k l xs s := by
  by_cases hc : isSt n xs s ∧ rngK k l
  · exact (clo_facts hc.1 hc.2).2
  · have : cloI n k l xs s = [] := by unfold cloI; rw [if_neg hc]
    rw [this] at h; simp at h
theorem pick_rng (f : Nat → Bool) (m i : Nat) (h : i < (pickIx f m).length) : 0 ≤ (pickIx f m).getD i default ∧ (pickIx f m).getD i default < (m : Int) := by
  obtain ⟨j, hj, _, e⟩ := (mem_pickIx f _ m).1 (getD_mem' (default : Int) h)
  rw [e]; omega
/-! ### Circuits -/
theorem memS_cnt {s : List Int} (hst : isSt n xs s) : cnt xs.length (memS s) = s.length := by
  obtain ⟨_, h2, h3⟩ := isSt_iff.1 hst
  have := cnt_memS (m := xs.length) (fun _ => true) s (h2.imp fun {a b} (h : a < b) => by omega) h3
  simpa using this
theorem ind_mem {s : List Int} (hst : isSt n xs s) (hr : rngK k l) : rsI n k l xs s = (s.length : Int) ↔ Ind xs.length n.toNat k.toNat l.toNat (exs xs) (memS s) := by
  rw [rsI_rk hst.2 hr, ← rkS_full (rng_nat hr).1 (rng_nat hr).2 (gGood hst.2), memS_cnt hst]
  omega
theorem mem_rtL {s : List Int} (hp : s.Pairwise (· < ·)) {i : Nat} (hi : i < s.length) (z : Int) : z ∈ rtL s i ↔ z ∈ s ∧ z ≠ s.getD i default := by
  unfold rtL
  rw [← wo_at s hp i hi, List.mem_filter]
  simp
theorem memS_rt {s : List Int} (hp : s.Pairwise (· < ·)) {i g : Nat} (hi : i < s.length) (hg : s.getD i default = (g : Int)) : memS (rtL s i) = delS (memS s) g := by
  funext j
  unfold memS delS
  rw [show decide ((j : Int) ∈ rtL s i) = (decide ((j : Int) ∈ s) && !decide ((j : Int) = (g : Int))) by
    rw [Bool.eq_iff_iff]; simp [mem_rtL hp hi, ← hg]]
  congr 1
  by_cases h : j = g
  · subst h; simp
  · have : ¬ (j : Int) = (g : Int) := by omega
    simp [h, this]
theorem accS_back {m k l N : Nat} {E : Nat → Int × Int} (e : Nat) : ∀ (d i : Nat), i < e → accS m N k l E (e + d) i = true → accS m N k l E e i = true
  | 0, _, _, h => h
  | d + 1, i, hi, h => by
    refine accS_back e d i hi ?_
    rw [← Nat.add_assoc] at h
    unfold accS at h
    split at h
    · simp only [addS, Bool.or_eq_true, beq_iff_eq] at h
      rcases h with h | h
      · exact h
      · omega
    · exact h
theorem mem_selP (f : Nat → Bool) (b : List Int) (z : Int) (m : Nat) : z ∈ selP f b m ↔ ∃ j, j < m ∧ f j = true ∧ z = b.getD j default := by
  unfold selP
  rw [List.mem_flatMap]
  constructor
  · rintro ⟨j, hj, hz⟩
    split at hz
    · exact ⟨j, by simpa using hj, by assumption, by simpa using hz⟩
    · simp at hz
  · rintro ⟨j, hj, hf, rfl⟩
    exact ⟨j, by simpa using hj, by rw [if_pos hf]; simp⟩
theorem selP_sub (f : Nat → Bool) (b : List Int) : ∀ m, m ≤ b.length → (selP f b m).Sublist (b.take m)
  | 0, _ => by rw [selP_zero]; exact List.nil_sublist _
  | m + 1, hm => by
    have e : b.take (m + 1) = b.take m ++ [b.getD m default] := takeS_getD (by omega)
    rw [e]
    by_cases h : f m = true
    · rw [selP_yes f b m h]; exact (selP_sub f b m (by omega)).append (List.Sublist.refl _)
    · rw [selP_no f b m h]; exact (selP_sub f b m (by omega)).trans (List.sublist_append_left _ _)
/-- What a circuit is. -/
theorem cir_facts {bar : Int} (h : cirOk n k l xs bar) : (circI n k l xs (cirI n k l xs bar) ∧ bar ∈ cirI n k l xs bar) ∧ ∀ z ∈ cirI n k l xs bar, ¬ z ∈ briI n k l xs := by
  have hst0 := (cir_st h).1
  have hr : rngK k l := (cir_st h).2
  have hg := hst0.2
  have hG := gGood hg
  obtain ⟨r1, r2⟩ := rng_nat hr
  obtain ⟨e, he, hrej, hbar⟩ := (mem_pickIx _ _ _).1 h
  have hacc := (run_ok hg hr).2
  have hB : ∀ i, memS (basA n k l xs bar) i = accS xs.length n.toNat k.toNat l.toNat (exs xs) e i := by
    intro i
    rw [Bool.eq_iff_iff]
    have h1 : memS (basA n k l xs bar) i = true ↔ memS (runP n k l xs).pl i = true ∧ i < e := by
      unfold memS basA basL
      rw [decide_eq_true_eq, decide_eq_true_eq, List.take_length, List.mem_filter, decide_eq_true_eq, hbar]
      exact ⟨fun ⟨a, b⟩ => ⟨a, by omega⟩, fun ⟨a, b⟩ => ⟨a, by omega⟩⟩
    rw [h1, hacc]
    constructor
    · rintro ⟨a, b⟩
      exact accS_back e (xs.length - e) i b (by rwa [show e + (xs.length - e) = xs.length by omega])
    · intro a
      have := accS_mono e (xs.length - e) i a
      rw [show e + (xs.length - e) = xs.length by omega] at this
      exact ⟨this, accS_lt e i a⟩
  have hBf : memS (basA n k l xs bar) = accS xs.length n.toNat k.toNat l.toNat (exs xs) e := funext hB
  have hBi : Ind xs.length n.toNat k.toNat l.toNat (exs xs) (memS (basA n k l xs bar)) := by rw [hBf]; exact accS_ind e
  have hBe : memS (basA n k l xs bar) e = false := by
    cases hh : memS (basA n k l xs bar) e with
    | false => rfl
    | true => rw [hB] at hh; have := accS_lt e e hh; omega
  have hd : ¬ Ind xs.length n.toNat k.toNat l.toNat (exs xs) (addS (memS (basA n k l xs bar)) e) := by
    intro hI
    rw [hBf] at hI
    have h1 : accS xs.length n.toNat k.toNat l.toNat (exs xs) (e + 1) e = true := by
      unfold accS
      rw [if_pos hI]
      simp [addS]
    have h2 := accS_mono (e + 1) (xs.length - (e + 1)) e h1
    rw [show e + 1 + (xs.length - (e + 1)) = xs.length by omega, ← hacc] at h2
    unfold rejF at hrej
    unfold memS at h2
    rw [h2] at hrej
    simp at hrej
  have hst1 : isSt n xs (basA n k l xs bar) := isSt_sub hst0 (List.sublist_append_left _ _)
  have hpw := (isSt_iff.1 hst1).2.1
  have hci : cirI n k l xs bar = selP (cirF n k l xs bar) (basA n k l xs bar) (basA n k l xs bar).length ++ [bar] := by unfold cirI; rw [if_pos h]
  have hC : IsCirc n.toNat k.toNat l.toNat xs (memS (basA n k l xs bar)) e (memS (cirI n k l xs bar)) := by
    intro i hi
    have key : ∀ j, j < (basA n k l xs bar).length → (basA n k l xs bar).getD j default = (i : Int) → (cirF n k l xs bar j = true ↔ Ind xs.length n.toNat k.toNat l.toNat (exs xs) (addS (delS (memS (basA n k l xs bar)) i) e)) := by
      intro j hj hji
      rw [← cir_ind h hj]
      have hs2 : isSt n xs (rtL (basA n k l xs bar) j ++ [bar]) := isSt_sub hst0 ((rtL_sub _ j).append (List.Sublist.refl _))
      rw [← memS_rt hpw hj hji, ← memS_snoc, ← hbar, ← ind_mem hs2 hr]
      unfold indI
      exact ⟨fun hh => hh.2.2, fun hh => ⟨hs2, hr, hh⟩⟩
    rw [hci]
    show decide _ = true ↔ _
    rw [decide_eq_true_eq, List.mem_append, mem_selP, List.mem_singleton]
    constructor
    · rintro (⟨j, hj, hf, hij⟩ | hh)
      · refine .inr ⟨?_, (key j hj hij.symm).1 hf⟩
        unfold memS
        exact decide_eq_true (by rw [hij]; exact getD_mem' default hj)
      · exact .inl (by omega)
    · rintro (hh | ⟨hm, hI⟩)
      · exact .inr (by omega)
      · obtain ⟨j, hj, hji⟩ := mem_getD default (of_decide_eq_true hm)
        exact .inl ⟨j, hj, (key j hj hji).2 hI, hji.symm⟩
  have hdep := circ_dep r1 hG hBi he hBe hd hC
  have hsty : isSt n xs (cirI n k l xs bar) := by
    rw [hci]
    refine isSt_sub hst0 (List.Sublist.append ?_ (List.Sublist.refl _))
    have := selP_sub (cirF n k l xs bar) (basA n k l xs bar) (basA n k l xs bar).length (Nat.le_refl _)
    rwa [List.take_length] at this
  obtain ⟨_, hyp, hyr⟩ := isSt_iff.1 hsty
  have hmin : ∀ i, i < (cirI n k l xs bar).length → ∀ g : Nat, (cirI n k l xs bar).getD i default = (g : Int) → Ind xs.length n.toNat k.toNat l.toNat (exs xs) (delS (memS (cirI n k l xs bar)) g) ∧ g < xs.length := by
    intro i hi g hgi
    have hm := getD_mem' (default : Int) hi
    have hb := hyr _ hm
    have hgl : g < xs.length := by omega
    refine ⟨circ_min hBi hC hgl ?_, hgl⟩
    unfold memS
    exact decide_eq_true (by rw [← hgi]; exact hm)
  refine ⟨⟨⟨hsty, hr, fun hh => hdep ((ind_mem hsty hr).1 hh), fun i hi => ?_⟩, by rw [hci]; simp⟩, fun z hz hb => ?_⟩
  · have hb := hyr _ (getD_mem' (default : Int) hi)
    have hgi : (cirI n k l xs bar).getD i default = (((cirI n k l xs bar).getD i default).toNat : Int) := by omega
    have h1 := (hmin i hi _ hgi).1
    rw [← memS_rt hyp hi hgi, ← ind_mem (isSt_sub hsty (rtL_sub _ _)) hr, rtL_len hi] at h1
    rw [h1]; omega
  · obtain ⟨i, hi, rfl⟩ := mem_getD default hz
    have hb2 := hyr _ hz
    have hgi : (cirI n k l xs bar).getD i default = (((cirI n k l xs bar).getD i default).toNat : Int) := by omega
    obtain ⟨h1, h2⟩ := hmin i hi _ hgi
    have h3 := circ_bridge r1 r2 hG h2 hdep h1
    unfold briI at hb
    split at hb
    · obtain ⟨j, hj, hf, hij⟩ := (mem_pickIx _ _ _).1 hb
      have hjg : j = ((cirI n k l xs bar).getD i default).toNat := by omega
      unfold briF at hf
      have hf' := of_decide_eq_true hf
      have hrm : rankI n k l (rmB n xs (j : Int)) = (rkS n.toNat k.toNat l.toNat xs (fun i => i != j) : Int) := by
        have hgr := isG_rm hg (j : Int)
        have e1 : rmB n xs (j : Int) = selR xs (fun i => i != j) := by
          unfold rmB
          rw [if_pos ⟨hg, by omega, by omega⟩, Int.toNat_natCast, drop_sel xs j hj]
        unfold rankI
        rw [if_pos ⟨hgr, hr⟩, rank_rk hgr hr, e1]; rfl
      rw [hrm, rank_all hg hr, hjg, h3] at hf'
      omega
    · simp at hb
theorem cir_br {bar : Int} (z : Int) (hz : z ∈ cirI n k l xs bar) : ¬ z ∈ briI n k l xs := by
  by_cases h : cirOk n k l xs bar
  · exact (cir_facts h).2 z hz
  · unfold cirI at hz
    rw [if_neg h] at hz
    simp at hz
end
end Go.Proofs.Ytlcijjkbgcllfaa
