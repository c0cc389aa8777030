/- What a walk through the search leans on: the search's steps, one by one; the map of what is seen. No program in sight. -/
import Derived.Test.YtpojkjabngkfgaaMq
import Derived.Test.YtpojkjabngkfgaaMs
namespace Go.Proofs.Ytpojkjabngkfgaa

/-- What the map of a search reads as. -/
def mapf (n : Nat) (s : FSt) (z : Int) : Option Int := if 0 ≤ z ∧ z < n ∧ gB s.sn z = true then some (gI s.fr z) else none
def addF (s : FSt) (u : Int) (j : Nat) : FSt := ⟨s.sn.set u.toNat true, s.fr.set u.toNat j, s.q ++ [u]⟩
theorem mapf_none {n : Nat} {s : FSt} {z : Int} (h : gB s.sn z ≠ true) : mapf n s z = none := by
  unfold mapf; rw [if_neg (fun hh => h hh.2.2)]
theorem mapf_some {n : Nat} {s : FSt} {z : Int} (h0 : 0 ≤ z) (h1 : z < n) (h : gB s.sn z = true) : mapf n s z = some (gI s.fr z) := by
  unfold mapf; rw [if_pos ⟨h0, h1, h⟩]
theorem mapf_isSome {n : Nat} {s : FSt} {z : Int} (h0 : 0 ≤ z) (h1 : z < n) : (mapf n s z).isSome = gB s.sn z := by
  cases h : gB s.sn z with
  | true => rw [mapf_some h0 h1 h]; rfl
  | false => rw [mapf_none (by rw [h]; simp)]; rfl
section
variable {n : Nat} {k : Int} {xs : List (Int × Int)} {f t pl : List Int} {a b v : Int} {s s' : FSt} {i j r : Nat}
theorem mapf_s0 (ha : 0 ≤ a ∧ a < n) : (fun z => if z = a then some (-1) else none) = mapf n (s0F n a) := by
  funext z
  by_cases hz : z = a
  · subst hz
    have h1 : gB (s0F n z).sn z = true := by
      unfold s0F gB
      exact getD_set_eq _ _ _ _ (by simp; omega)
    rw [if_pos rfl, mapf_some ha.1 ha.2 h1]
    unfold s0F gI
    simp only
    rw [List.getD_eq_getElem?_getD, List.getElem?_replicate, if_pos (by omega)]; rfl
  · rw [if_neg hz]
    unfold mapf
    rw [if_neg]
    rintro ⟨h0, _, h⟩
    unfold s0F gB at h
    simp only at h
    rw [getD_set_ne _ _ _ _ _ (toNat_ne ha.1 h0 (Ne.symm hz))] at h
    have h2 := gB_rep n z
    unfold gB at h2
    rw [h2] at h; cases h
theorem mapf_add {u : Int} (h0 : 0 ≤ u) (h1 : u < n) (hs : s.sn.length = n) (hf : s.fr.length = n) : (fun z => if z = u then some (j : Int) else mapf n s z) = mapf n (addF s u j) := by
  funext z
  by_cases hz : z = u
  · subst hz
    have e1 : gB (addF s z j).sn z = true := by unfold addF gB; exact getD_set_eq _ _ _ _ (by omega)
    rw [if_pos rfl, mapf_some h0 h1 e1]
    unfold addF gI
    rw [getD_set_eq _ _ _ _ (by omega)]
  · rw [if_neg hz]
    unfold mapf
    by_cases hz0 : 0 ≤ z
    · have e1 : gB (addF s u j).sn z = gB s.sn z := by unfold addF gB; exact getD_set_ne _ _ _ _ _ (toNat_ne h0 hz0 (Ne.symm hz))
      have e2 : gI (addF s u j).fr z = gI s.fr z := by unfold addF gI; exact getD_set_ne _ _ _ _ _ (toNat_ne h0 hz0 (Ne.symm hz))
      rw [e1, e2]
    · rw [if_neg (fun h => hz0 h.1), if_neg (fun h => hz0 h.1)]

theorem asc_len {p : PS} (hp : okP n k xs p) : p.pl.length ≤ xs.length := by
  have key : ∀ i, i < p.pl.length → (i : Int) ≤ p.pl.getD i default := by
    intro i
    induction i with
    | zero => intro hi; have := (hp.asc 0 hi).1; omega
    | succ i ih =>
      intro hi
      have h1 := ih (by omega)
      have h2 := (hp.asc (i + 1) hi).2.2 (by omega)
      rw [Nat.add_sub_cancel] at h2
      omega
  rcases Nat.eq_zero_or_pos p.pl.length with h0 | h0
  · omega
  · have h1 := key (p.pl.length - 1) (by omega)
    have h2 := (hp.asc (p.pl.length - 1) (by omega)).2.1
    omega

/-! ### The search, step by step -/
theorem scan_skip1 (h : t.getD j default ≠ v) (hr : 0 < r) : scanF xs f t pl b v r j s = scanF xs f t pl b v (r - 1) (j + 1) s := by
  obtain ⟨r, rfl⟩ : ∃ q, r = q + 1 := ⟨r - 1, by omega⟩
  have e : stE xs f t pl b v s j = (s, false) := by unfold stE; rw [if_neg h]
  rw [scanF, e]; rfl
theorem scan_skip2 (h : t.getD j default = v) (hs : gB s.sn (othB (brP xs pl j) v) = true) (hr : 0 < r) : scanF xs f t pl b v r j s = scanF xs f t pl b v (r - 1) (j + 1) s := by
  obtain ⟨r, rfl⟩ : ∃ q, r = q + 1 := ⟨r - 1, by omega⟩
  have e : stE xs f t pl b v s j = (s, false) := by unfold stE; rw [if_pos h, if_pos hs]
  rw [scanF, e]; rfl
theorem scan_push (h : t.getD j default = v) (hs : ¬ gB s.sn (othB (brP xs pl j) v) = true) (hf : othB (brP xs pl j) v = b ∨ gI f (othB (brP xs pl j) v) ≤ 0) (hr : 0 < r) : scanF xs f t pl b v r j s = scanF xs f t pl b v (r - 1) (j + 1) (addF s (othB (brP xs pl j) v) j) := by
  obtain ⟨r, rfl⟩ : ∃ q, r = q + 1 := ⟨r - 1, by omega⟩
  have e : stE xs f t pl b v s j = (addF s (othB (brP xs pl j) v) j, false) := by
    unfold stE addF
    rw [if_pos h, if_neg hs]
    congr 1
    exact decide_eq_false fun hh => by rcases hf with hf | hf <;> omega
  rw [scanF, e]; rfl
theorem scan_found (h : t.getD j default = v) (hs : ¬ gB s.sn (othB (brP xs pl j) v) = true) (hb : othB (brP xs pl j) v ≠ b) (hf : 0 < gI f (othB (brP xs pl j) v)) (hr : 0 < r) : scanF xs f t pl b v r j s = (addF s (othB (brP xs pl j) v) j, true) := by
  obtain ⟨r, rfl⟩ : ∃ q, r = q + 1 := ⟨r - 1, by omega⟩
  have e : stE xs f t pl b v s j = (addF s (othB (brP xs pl j) v) j, true) := by
    unfold stE addF
    rw [if_pos h, if_neg hs]
    congr 1
    exact decide_eq_true ⟨hb, hf⟩
  rw [scanF, e]; rfl
theorem bfs_next (hi : i < s.q.length) (h : scanF xs f t pl b (s.q.getD i default) pl.length 0 s = (s', false)) (hr : 0 < r) : bfsF xs f t pl b r i s = bfsF xs f t pl b (r - 1) (i + 1) s' := by
  obtain ⟨r, rfl⟩ : ∃ q, r = q + 1 := ⟨r - 1, by omega⟩
  rw [bfsF, if_pos hi, h]; rfl
theorem bfs_found (hi : i < s.q.length) (h : scanF xs f t pl b (s.q.getD i default) pl.length 0 s = (s', true)) (hr : 0 < r) : bfsF xs f t pl b r i s = (s', true) := by
  obtain ⟨r, rfl⟩ : ∃ q, r = q + 1 := ⟨r - 1, by omega⟩
  rw [bfsF, if_pos hi, h]; rfl
theorem bfs_end (hi : ¬ i < s.q.length) (hr : 0 < r) : bfsF xs f t pl b r i s = (s, false) := by
  obtain ⟨r, rfl⟩ : ∃ q, r = q + 1 := ⟨r - 1, by omega⟩
  rw [bfsF, if_neg hi]
theorem lastQ_add (s : FSt) (u : Int) (j : Nat) : lastQ (addF s u j) = u := by
  unfold lastQ addF
  simp only [List.length_append, List.length_singleton, Nat.add_sub_cancel]
  exact getD_app_here _ _ _
/-- The state behind a search. -/
def outP (n : Nat) (xs : List (Int × Int)) (p : PS) (a b : Int) : PS := (findP n xs p a b).getD p
theorem find_hit {p : PS} (h : findR n xs p a b = (s, true)) : findP n xs p a b = some (shiftP n p s a) := by
  unfold findP; rw [h]; rfl
theorem find_miss {p : PS} (h : findR n xs p a b = (s, false)) : findP n xs p a b = none := by
  unfold findP; rw [h]; rfl
/-- All that one needs to know where a bar leads to a new point. -/
theorem add_facts {p : PS} (hp : okP n k xs p) (h : WF n xs p.t p.pl a s) (hj : j < p.pl.length) (hm : p.t.getD j default ∈ s.q) (hn : ¬ gB s.sn (othB (brP xs p.pl j) (p.t.getD j default)) = true) :
    WF n xs p.t p.pl a (addF s (othB (brP xs p.pl j) (p.t.getD j default)) j) := WF.add hp.pv h hj hm hn
theorem oth_rng {p : PS} (hp : okP n k xs p) (hj : j < p.pl.length) : 0 ≤ othB (brP xs p.pl j) (p.t.getD j default) ∧ othB (brP xs p.pl j) (p.t.getD j default) < n := ⟨(hp.pv.oth hj).1, (hp.pv.oth hj).2.1⟩
theorem fv_rng {p : PS} (hp : okP n k xs p) {v : Int} (h0 : 0 ≤ v) (h1 : v < n) : 0 ≤ gI p.f v ∧ gI p.f v ≤ k := by
  have := hp.pos v h0 h1
  have := hp.sum v h0 h1
  omega
theorem pathF_mem (hP : PV n xs t pl) (h : WF n xs t pl a s) : ∀ (r p : Nat), p < s.q.length → p ≤ r → ∀ q ∈ pathF a s.fr t r (s.q.getD p default), q.2 ∈ s.q
  | 0, p, hp, hr => fun q hq => by cases hq
  | r + 1, p, hp, hr => by
    unfold pathF
    by_cases hpa : s.q.getD p default = a
    · rw [if_pos hpa]; exact fun q hq => by cases hq
    · rw [if_neg hpa]
      have hp0 : 0 < p := by
        rcases Nat.eq_zero_or_pos p with h0 | h0
        · subst h0; exact absurd h.q0.2 hpa
        · exact h0
      obtain ⟨k, p', h1, h2, h3, h4, h5⟩ := h.tree p hp0 hp
      have hk : (gI s.fr (s.q.getD p default)).toNat = k := by omega
      rw [hk, ← h4]
      intro q hq
      rcases List.mem_cons.1 hq with rfl | hq
      · exact getD_mem' default (by omega)
      · exact pathF_mem hP h r p' (by omega) (by omega) q hq
/-- The path from the point that was found. -/
theorem found_path {p : PS} (hp : okP n k xs p) (h : WF n xs p.t p.pl a s) : isPath n xs p.pl a s.fr p.t (lastQ s) (pathF a s.fr p.t n (lastQ s)) ∧ (∀ q ∈ pathF a s.fr p.t n (lastQ s), q.2 ∈ s.q) ∧ lastQ s ∈ s.q := by
  have hq := h.qc
  have h0 := h.q0.1
  exact ⟨(pathF_spec hp.pv h n (s.q.length - 1) (by omega) (by omega)).1, pathF_mem hp.pv h n (s.q.length - 1) (by omega) (by omega), getD_mem' default (by omega)⟩
theorem isPath_end {fr tc : List Int} {ps : List (Nat × Int)} (h : isPath n xs pl a fr tc a ps) : ps = [] := by
  cases ps with
  | nil => rfl
  | cons q ps => exact absurd rfl h.1
/-- One step along the path. -/
theorem isPath_step {fr tc : List Int} {ps : List (Nat × Int)} (h : isPath n xs pl a fr tc v ps) (hv : v ≠ a) : ∃ kk w ps', ps = (kk, w) :: ps' ∧ 0 ≤ v ∧ v < n ∧ gI fr v = (kk : Int) ∧ kk < pl.length ∧ tc.getD kk default = w ∧ v = othB (brP xs pl kk) w ∧ (v = (brP xs pl kk).1 ∨ v = (brP xs pl kk).2) ∧ isPath n xs pl a fr (tc.set kk v) w ps' ∧ flipP tc v ps = flipP (tc.set kk v) w ps' := by
  cases ps with
  | nil => exact absurd h hv
  | cons q ps =>
    obtain ⟨kk, w⟩ := q
    obtain ⟨h1, h2, h3, h4, h5, h6, h7, h8, h9, h10⟩ := h
    exact ⟨kk, w, ps, rfl, h2, h3, h4, h5, h6, h7, h8, isPath_set ps tc w h9 h10, rfl⟩
theorem out_some {p : PS} (h : (findP n xs p a b).isSome = true) : findP n xs p a b = some (outP n xs p a b) := by
  unfold outP
  cases hf : findP n xs p a b with
  | none => rw [hf] at h; cases h
  | some y => rfl
theorem out_none {p : PS} (h : findP n xs p a b = none) : outP n xs p a b = p := by unfold outP; rw [h]; rfl
theorem out_ok {p : PS} (hp : okP n k xs p) (ha : 0 ≤ a ∧ a < n) (hb : 0 ≤ b ∧ b < n) (hab : a ≠ b) (h : (findP n xs p a b).isSome = true) : okP n k xs (outP n xs p a b) ∧ (outP n xs p a b).pl = p.pl ∧ gI (outP n xs p a b).f a = gI p.f a + 1 ∧ gI (outP n xs p a b).f b = gI p.f b :=
  findP_some hp ha hb hab (out_some h)
theorem ps_eta {y : PS} {pl : List Int} (h : y.pl = pl) : (⟨y.f, y.t, pl⟩ : PS) = y := by subst h; rfl
variable {want : Int} {p : PS}
theorem gath_a (hw : gI p.f a + gI p.f b < want) (h : (findP n xs p a b).isSome = true) (hr : 0 < r) : gathP n xs a b want r p = gathP n xs a b want (r - 1) (outP n xs p a b) := by
  obtain ⟨r, rfl⟩ : ∃ q, r = q + 1 := ⟨r - 1, by omega⟩
  rw [gathP, if_pos hw, out_some h]; rfl
theorem gath_b (hw : gI p.f a + gI p.f b < want) (h1 : findP n xs p a b = none) (h : (findP n xs p b a).isSome = true) (hr : 0 < r) : gathP n xs a b want r p = gathP n xs a b want (r - 1) (outP n xs p b a) := by
  obtain ⟨r, rfl⟩ : ∃ q, r = q + 1 := ⟨r - 1, by omega⟩
  rw [gathP, if_pos hw, h1, out_some h]; rfl
theorem gath_none (hw : gI p.f a + gI p.f b < want) (h1 : findP n xs p a b = none) (h2 : findP n xs p b a = none) (hr : 0 < r) : gathP n xs a b want r p = (p, false) := by
  obtain ⟨r, rfl⟩ : ∃ q, r = q + 1 := ⟨r - 1, by omega⟩
  rw [gathP, if_pos hw, h1, h2]
theorem gath_done (hw : ¬ gI p.f a + gI p.f b < want) (hr : 0 < r) : gathP n xs a b want r p = (p, true) := by
  obtain ⟨r, rfl⟩ : ∃ q, r = q + 1 := ⟨r - 1, by omega⟩
  rw [gathP, if_neg hw]
end
/-- The state behind a try to place a bar. -/
def plcP (n : Nat) (xs : List (Int × Int)) (l : Int) (p : PS) (e : Nat) : PS := if (gatP n xs l p e).2 = true then putP (gatP n xs l p e).1 (exs xs e) e else (gatP n xs l p e).1
theorem play_yes {n : Nat} {xs : List (Int × Int)} {k l : Int} {e : Nat} (h : (placeP n xs l (playP n xs k l e) e).isSome = true) : playP n xs k l (e + 1) = plcP n xs l (playP n xs k l e) e := by
  rw [playP]
  unfold placeP at h ⊢
  unfold plcP
  split at h
  · rename_i hg; rw [if_pos hg, if_pos hg]; rfl
  · cases h
theorem play_no {n : Nat} {xs : List (Int × Int)} {k l : Int} {e : Nat} (h : (placeP n xs l (playP n xs k l e) e).isSome = false) : playP n xs k l (e + 1) = playP n xs k l e := by
  rw [playP]
  cases hp : placeP n xs l (playP n xs k l e) e with
  | none => rfl
  | some y => rw [hp] at h; cases h
theorem place_isSome {n : Nat} {xs : List (Int × Int)} {l : Int} {p : PS} {e : Nat} : (placeP n xs l p e).isSome = (gatP n xs l p e).2 := by
  unfold placeP
  split
  · rename_i h; rw [h]; rfl
  · rename_i h
    cases hg : (gatP n xs l p e).2 with
    | true => exact absurd hg h
    | false => rfl
theorem plc_yes {n : Nat} {xs : List (Int × Int)} {l : Int} {p : PS} {e : Nat} (h : (gatP n xs l p e).2 = true) : plcP n xs l p e = putP (gatP n xs l p e).1 (exs xs e) e := by unfold plcP; rw [if_pos h]
theorem plc_no {n : Nat} {xs : List (Int × Int)} {l : Int} {p : PS} {e : Nat} (h : (gatP n xs l p e).2 = false) : plcP n xs l p e = (gatP n xs l p e).1 := by unfold plcP; rw [if_neg (by rw [h]; simp)]
/-- The game in numbers of Go. -/
theorem play_ok {n k l : Int} {xs : List (Int × Int)} (hk : 1 ≤ k ∧ k ≤ 3) (hl : 0 ≤ l ∧ l < 2 * k) (hG : GoodL n.toNat xs) (e : Nat) (he : e ≤ xs.length) : okP n.toNat k xs (playP n.toNat xs k l e) ∧ (∀ z ∈ (playP n.toNat xs k l e).pl, z < e) ∧ ∀ i, memS (playP n.toNat xs k l e).pl i = accS xs.length n.toNat k.toNat l.toNat (exs xs) e i := by
  have h := playP_spec (n := n.toNat) (k := k.toNat) (l := l.toNat) (xs := xs) (by omega) (by omega) hG.e e he
  rw [show ((k.toNat : Nat) : Int) = k by omega, show ((l.toNat : Nat) : Int) = l by omega] at h
  exact ⟨h.1, h.2.2, h.2.1⟩
def rngI (k l : Int) : Prop := 1 ≤ k ∧ k ≤ 3 ∧ 0 ≤ l ∧ l < 2 * k
def runP (n k l : Int) (xs : List (Int × Int)) : PS := if isG n xs ∧ (1 ≤ k ∧ k ≤ 3 ∧ 0 ≤ l ∧ l < 2 * k) then playP n.toNat xs k l xs.length else ⟨[], [], []⟩
theorem runP_len (n k l : Int) (xs : List (Int × Int)) : (runP n k l xs).f.length ≤ 8 ∧ (runP n k l xs).t.length ≤ 24 ∧ (runP n k l xs).pl.length ≤ 24 := by
  unfold runP
  split
  · rename_i h
    have ok := (play_ok (n := n) (k := k) (l := l) (xs := xs) ⟨h.2.1, h.2.2.1⟩ h.2.2.2 (gGood h.1) xs.length (Nat.le_refl _)).1
    have h1 := ok.fl
    have h2 := ok.pv.tl
    have h3 := asc_len ok
    have h4 := h.1.2.1
    have h5 := h.1.2.2.1
    omega
  · simp
def rankI (n k l : Int) (xs : List (Int × Int)) : Int := if isG n xs ∧ (1 ≤ k ∧ k ≤ 3 ∧ 0 ≤ l ∧ l < 2 * k) then (runP n k l xs).pl.length else -1
def rejF (n k l : Int) (xs : List (Int × Int)) (j : Nat) : Bool := decide (isG n xs ∧ (1 ≤ k ∧ k ≤ 3 ∧ 0 ≤ l ∧ l < 2 * k)) && !decide ((j : Int) ∈ (runP n k l xs).pl)
theorem rejF_yes {n k l : Int} {xs : List (Int × Int)} {j : Nat} (h1 : isG n xs ∧ (1 ≤ k ∧ k ≤ 3 ∧ 0 ≤ l ∧ l < 2 * k)) (h2 : ¬ (j : Int) ∈ (runP n k l xs).pl) : rejF n k l xs j = true := by
  unfold rejF; rw [decide_eq_true h1, decide_eq_false h2]; rfl
theorem rejF_no1 {n k l : Int} {xs : List (Int × Int)} {j : Nat} (h1 : ¬ (isG n xs ∧ (1 ≤ k ∧ k ≤ 3 ∧ 0 ≤ l ∧ l < 2 * k))) : ¬ rejF n k l xs j = true := by
  unfold rejF; rw [decide_eq_false h1]; simp
theorem rejF_no2 {n k l : Int} {xs : List (Int × Int)} {j : Nat} (h2 : ¬ ¬ (j : Int) ∈ (runP n k l xs).pl) : ¬ rejF n k l xs j = true := by
  unfold rejF; rw [decide_eq_true (Decidable.not_not.1 h2)]; simp
/-- The rank of the plane. -/
def rk2 (n : Int) (ys : List (Int × Int)) : Nat := rk n.toNat 2 3 ys
def impI (n : Int) (xs : List (Int × Int)) (a b : Int) : Prop := isG n xs ∧ (0 ≤ a ∧ a ≤ n - 1) ∧ (0 ≤ b ∧ b ≤ n - 1) ∧ (a = b ∨ ¬ rk2 n xs < rk2 n (xs ++ [(min a b, max a b)]))
instance (n : Int) (xs : List (Int × Int)) (a b : Int) : Decidable (impI n xs a b) := by unfold impI; infer_instance
def frI (n : Int) (xs : List (Int × Int)) : Int := if isG n xs then max 0 (2 * n - 3) - rankI n 2 3 xs else -1
def compF (n : Int) (xs : List (Int × Int)) (i : Int) (j : Nat) : Bool := decide (impI n xs (xs.getD i.toNat default).1 (j : Int)) && decide (impI n xs (xs.getD i.toNat default).2 (j : Int))
/-! ### A bar put in its place -/
def putL : List (Int × Int) → Int × Int → List (Int × Int)
  | [], x => [x]
  | y :: ys, x => if leB y x then y :: putL ys x else x :: y :: ys
theorem putL_all (x : Int × Int) : ∀ xs : List (Int × Int), (∀ j, j < xs.length → leB (xs.getD j default) x) → putL xs x = xs ++ [x]
  | [], _ => rfl
  | y :: ys, h => by
    have h0 := h 0 (by simp)
    rw [putL, if_pos (by simpa using h0), putL_all x ys (fun j hj => by have := h (j + 1) (by simpa using hj); simpa using this)]; rfl
theorem putL_at (x : Int × Int) : ∀ (xs : List (Int × Int)) (k : Nat), k < xs.length → (∀ j, j < k → leB (xs.getD j default) x) → ¬ leB (xs.getD k default) x → putL xs x = xs.take k ++ x :: xs.drop k
  | [], k, hk, _, _ => by simp at hk
  | y :: ys, 0, _, _, h => by
    rw [putL, if_neg (by simpa using h)]; rfl
  | y :: ys, k + 1, hk, ha, h => by
    have h0 := ha 0 (by omega)
    rw [putL, if_pos (by simpa using h0), putL_at x ys k (by simpa using hk) (fun j hj => by have := ha (j + 1) (by omega); simpa using this) (by simpa using h)]; rfl
theorem putL_perm (x : Int × Int) : ∀ xs : List (Int × Int), (putL xs x).Perm (xs ++ [x])
  | [] => List.Perm.refl _
  | y :: ys => by
    rw [putL]
    split
    · exact (putL_perm x ys).cons y
    · exact (List.perm_append_singleton x (y :: ys)).symm
theorem putL_len (x : Int × Int) (xs : List (Int × Int)) : (putL xs x).length = xs.length + 1 := by
  rw [(putL_perm x xs).length_eq, List.length_append]; rfl
theorem rk2_put {n : Int} {xs : List (Int × Int)} {x : Int × Int} (hG : GoodL n.toNat (xs ++ [x])) : rk2 n (putL xs x) = rk2 n (xs ++ [x]) := by
  unfold rk2
  exact (rk_perm (by decide) (by decide) hG (putL_perm x xs).symm).symm
theorem rk2_mono {n : Int} {xs : List (Int × Int)} {x : Int × Int} (hG : GoodL n.toNat (xs ++ [x])) : rk2 n xs ≤ rk2 n (xs ++ [x]) := by
  unfold rk2
  have hs : xs.Sublist (xs ++ [x]) := List.sublist_append_left _ _
  obtain ⟨zs, a, b, c⟩ := rk_is (k := 2) (l := 3) (by decide) (by decide) (hG.sub hs)
  rw [← c]
  exact rk_max (by decide) (by decide) hG (a.trans hs) b
theorem put_same {n : Int} {xs : List (Int × Int)} {x : Int × Int} (hG : GoodL n.toNat (xs ++ [x])) : rk2 n (putL xs x) = rk2 n xs ↔ ¬ rk2 n xs < rk2 n (xs ++ [x]) := by
  rw [rk2_put hG]
  have := rk2_mono hG
  omega

/-! ### What a search hands back -/
def fR (vf vt vp : Go.Value) : Option (Go.Value × Go.Value × Go.Value) → Go.Value
  | none => .tuple #[.agg #[vf, vt, vp], .bool false]
  | some x => .tuple #[.agg #[x.1, x.2.1, x.2.2], .bool true]
def fN (T : Nat) (p : PS) : Option (Go.Value × Go.Value × Go.Value) → List En
  | none => []
  | some x => [.row x.1 T 1 (p.f.map iv), .row x.2.1 T 1 (p.t.map iv), .row x.2.2 T 1 (p.pl.map iv)]

/-! ### States that come in -/
def gpOk (n : Int) (xs : List (Int × Int)) (k : Int) (f t pl : List Int) (a b want : Int) : Prop := isP n xs k f t pl ∧ (0 ≤ a ∧ a < n) ∧ (0 ≤ b ∧ b < n) ∧ a ≠ b ∧ (0 ≤ want ∧ want ≤ 2 * k)
instance (n : Int) (xs : List (Int × Int)) (k : Int) (f t pl : List Int) (a b want : Int) : Decidable (gpOk n xs k f t pl a b want) := by unfold gpOk; infer_instance
def gpI (n : Int) (xs : List (Int × Int)) (k : Int) (f t pl : List Int) (a b want : Int) : PS × Bool :=
  if gpOk n xs k f t pl a b want ∧ (gathP n.toNat xs a b want 8 ⟨f, t, pl⟩).2 = true then gathP n.toNat xs a b want 8 ⟨f, t, pl⟩ else (⟨f, t, pl⟩, false)
theorem gpI_no {n : Int} {xs : List (Int × Int)} {k : Int} {f t pl : List Int} {a b want : Int} (h : ¬ gpOk n xs k f t pl a b want) : gpI n xs k f t pl a b want = (⟨f, t, pl⟩, false) := by
  unfold gpI; rw [if_neg (fun hh => h hh.1)]
theorem gpI_fail {n : Int} {xs : List (Int × Int)} {k : Int} {f t pl : List Int} {a b want : Int} (h : (gathP n.toNat xs a b want 8 ⟨f, t, pl⟩).2 = false) : gpI n xs k f t pl a b want = (⟨f, t, pl⟩, false) := by
  unfold gpI; rw [if_neg (fun hh => by rw [h] at hh; cases hh.2)]
theorem gpI_yes {n : Int} {xs : List (Int × Int)} {k : Int} {f t pl : List Int} {a b want : Int} (h : gpOk n xs k f t pl a b want) (h2 : (gathP n.toNat xs a b want 8 ⟨f, t, pl⟩).2 = true) : gpI n xs k f t pl a b want = gathP n.toNat xs a b want 8 ⟨f, t, pl⟩ := by
  unfold gpI; rw [if_pos ⟨h, h2⟩]
def pbOk (n : Int) (xs : List (Int × Int)) (k l : Int) (f t pl : List Int) (i : Int) : Prop := isP n xs k f t pl ∧ (1 ≤ k ∧ k ≤ 3 ∧ 0 ≤ l ∧ l < 2 * k) ∧ (0 ≤ i ∧ i < xs.length) ∧ (0 < pl.length → pl.getD (pl.length - 1) default < i)
instance (n : Int) (xs : List (Int × Int)) (k l : Int) (f t pl : List Int) (i : Int) : Decidable (pbOk n xs k l f t pl i) := by unfold pbOk; infer_instance
def pbI (n : Int) (xs : List (Int × Int)) (k l : Int) (f t pl : List Int) (i : Int) : PS × Bool :=
  if pbOk n xs k l f t pl i ∧ (placeP n.toNat xs l ⟨f, t, pl⟩ i.toNat).isSome = true then (plcP n.toNat xs l ⟨f, t, pl⟩ i.toNat, true) else (⟨f, t, pl⟩, false)
theorem pbI_no {n : Int} {xs : List (Int × Int)} {k l : Int} {f t pl : List Int} {i : Int} (h : ¬ pbOk n xs k l f t pl i) : pbI n xs k l f t pl i = (⟨f, t, pl⟩, false) := by
  unfold pbI; rw [if_neg (fun hh => h hh.1)]
theorem pbI_fail {n : Int} {xs : List (Int × Int)} {k l : Int} {f t pl : List Int} {i : Int} (h : (placeP n.toNat xs l ⟨f, t, pl⟩ i.toNat).isSome = false) : pbI n xs k l f t pl i = (⟨f, t, pl⟩, false) := by
  unfold pbI; rw [if_neg (fun hh => by rw [h] at hh; cases hh.2)]
theorem pbI_yes {n : Int} {xs : List (Int × Int)} {k l : Int} {f t pl : List Int} {i : Int} (h : pbOk n xs k l f t pl i) (h2 : (placeP n.toNat xs l ⟨f, t, pl⟩ i.toNat).isSome = true) : pbI n xs k l f t pl i = (plcP n.toNat xs l ⟨f, t, pl⟩ i.toNat, true) := by
  unfold pbI; rw [if_pos ⟨h, h2⟩]
/-- A state of the game goes on by one bar. -/
theorem pbI_play {n k l : Int} {xs : List (Int × Int)} (hg : isG n xs) (hr : 1 ≤ k ∧ k ≤ 3 ∧ 0 ≤ l ∧ l < 2 * k) (e : Nat) (he : e < xs.length) :
    (pbI n xs k l (playP n.toNat xs k l e).f (playP n.toNat xs k l e).t (playP n.toNat xs k l e).pl (e : Int)).1 = playP n.toNat xs k l (e + 1) := by
  obtain ⟨h1, h2, _⟩ := play_ok (n := n) (l := l) ⟨hr.1, hr.2.1⟩ hr.2.2 (gGood hg) e (by omega)
  have hok : pbOk n xs k l (playP n.toNat xs k l e).f (playP n.toNat xs k l e).t (playP n.toNat xs k l e).pl (e : Int) :=
    ⟨ok_isP hg ⟨hr.1, hr.2.1⟩ h1, hr, by omega, fun h0 => h2 _ (getD_mem' default (by omega))⟩
  cases hp : (placeP n.toNat xs l (playP n.toNat xs k l e) e).isSome with
  | true => rw [pbI_yes hok (by rw [Int.toNat_natCast]; exact hp), play_yes hp, Int.toNat_natCast]
  | false => rw [pbI_fail (by rw [Int.toNat_natCast]; exact hp), play_no hp]
theorem compF_yes {n i : Int} {xs : List (Int × Int)} {j : Nat} (h1 : impI n xs (xs.getD i.toNat default).1 (j : Int)) (h2 : impI n xs (xs.getD i.toNat default).2 (j : Int)) : compF n xs i j = true := by unfold compF; rw [decide_eq_true h1, decide_eq_true h2]; rfl
theorem compF_no1 {n i : Int} {xs : List (Int × Int)} {j : Nat} (h1 : ¬ impI n xs (xs.getD i.toNat default).1 (j : Int)) : ¬ compF n xs i j = true := by unfold compF; rw [decide_eq_false h1]; simp
theorem compF_no2 {n i : Int} {xs : List (Int × Int)} {j : Nat} (h2 : ¬ impI n xs (xs.getD i.toNat default).2 (j : Int)) : ¬ compF n xs i j = true := by unfold compF; rw [decide_eq_false h2]; simp
theorem goodL_app {n : Nat} {xs : List (Int × Int)} {x : Int × Int} (h : GoodL n xs) (hx : 0 ≤ x.1 ∧ x.1 < x.2 ∧ x.2 < n) : GoodL n (xs ++ [x]) := by
  intro y hy
  rcases List.mem_append.1 hy with hy | hy
  · exact h y hy
  · rw [List.mem_singleton] at hy; subst hy; exact hx
theorem rankI_rng (n k l : Int) (xs : List (Int × Int)) : -1 ≤ rankI n k l xs ∧ rankI n k l xs ≤ 24 := by
  have := (runP_len n k l xs).2.2
  unfold rankI
  split <;> omega
def compI (n : Int) (xs : List (Int × Int)) (i : Int) : List Int := if isG n xs ∧ 0 ≤ i ∧ i < xs.length then pickIx (compF n xs i) n.toNat else []
end Go.Proofs.Ytpojkjabngkfgaa
