/- Plain mathematics of texts read back as graphs. No program in sight. -/
import Derived.Test.YtlcijjkbgcllfaaMj
namespace Go.Proofs.Ytlcijjkbgcllfaa

/-- The parts of a text between bytes of one kind. -/
def cutL (b : UInt8) : List UInt8 → List (List UInt8)
  | [] => [[]]
  | c :: l => if c = b then [] :: cutL b l else match cutL b l with
    | [] => [[c]]
    | w :: ws => (c :: w) :: ws
theorem cutL_ne (b : UInt8) : ∀ l, cutL b l ≠ []
  | [] => by simp [cutL]
  | c :: l => by
    unfold cutL
    split
    · simp
    · split <;> simp
theorem cutL_snoc_eq (b : UInt8) : ∀ l, cutL b (l ++ [b]) = cutL b l ++ [[]]
  | [] => by simp [cutL]
  | c :: l => by
    have ih := cutL_snoc_eq b l
    rw [List.cons_append, cutL, cutL]
    split
    · rw [ih]; rfl
    · rw [ih]
      have := cutL_ne b l
      cases h : cutL b l with
      | nil => exact absurd h this
      | cons w ws => rfl
theorem cutL_snoc_ne (b x : UInt8) (hx : x ≠ b) : ∀ l (o : List (List UInt8)) (p : List UInt8), o ++ [p] = cutL b l → cutL b (l ++ [x]) = o ++ [p ++ [x]]
  | [], o, p, h => by
    simp only [cutL] at h
    have ho : o = [] := by
      have := congrArg List.length h
      simp at this
      exact this
    subst ho
    simp at h
    subst h
    simp [cutL, hx]
  | c :: l, o, p, h => by
    rw [List.cons_append, cutL]
    rw [cutL] at h
    split at h
    · rename_i hc
      rw [if_pos hc]
      have hne := cutL_ne b l
      cases o with
      | nil =>
        exfalso
        simp only [List.nil_append, List.cons.injEq] at h
        exact hne h.2.symm
      | cons w o =>
        simp only [List.cons_append, List.cons.injEq] at h
        obtain ⟨rfl, h⟩ := h
        rw [cutL_snoc_ne b x hx l o p h]; rfl
    · rename_i hc
      rw [if_neg hc]
      have hne := cutL_ne b l
      cases hl : cutL b l with
      | nil => exact absurd hl hne
      | cons w ws =>
        rw [hl] at h
        simp only at h
        cases o with
        | nil =>
          simp only [List.nil_append, List.cons.injEq] at h
          obtain ⟨rfl, hws⟩ := h
          rw [cutL_snoc_ne b x hx l [] w (by rw [hl, ← hws]; rfl)]; rfl
        | cons w' o =>
          simp only [List.cons_append, List.cons.injEq] at h
          obtain ⟨rfl, hws⟩ := h
          rw [cutL_snoc_ne b x hx l (w :: o) p (by rw [hl, ← hws]; rfl)]; rfl
theorem cutL_none (b : UInt8) : ∀ w, b ∉ w → cutL b w = [w]
  | [], _ => rfl
  | c :: w, h => by
    simp only [List.mem_cons, not_or] at h
    rw [cutL, if_neg (fun hh => h.1 hh.symm), cutL_none b w h.2]
theorem cutL_app (b : UInt8) (r : List UInt8) : ∀ w, b ∉ w → cutL b (w ++ b :: r) = w :: cutL b r
  | [], _ => by simp [cutL]
  | c :: w, h => by
    simp only [List.mem_cons, not_or] at h
    rw [List.cons_append, cutL, if_neg (fun hh => h.1 hh.symm), cutL_app b r w h.2]
theorem cutL_len (b : UInt8) : ∀ l, (cutL b l).length ≤ l.length + 1
  | [] => by simp [cutL]
  | c :: l => by
    have ih := cutL_len b l
    rw [cutL]
    split
    · simp; omega
    · have := cutL_ne b l
      cases h : cutL b l with
      | nil => exact absurd h this
      | cons w ws => rw [h] at ih; simp at ih ⊢; omega
theorem cutL_part (b : UInt8) : ∀ l, ∀ w ∈ cutL b l, w.length ≤ l.length
  | [], w, h => by simp [cutL] at h; subst h; simp
  | c :: l, w, h => by
    rw [cutL] at h
    split at h
    · rcases List.mem_cons.1 h with rfl | h
      · simp
      · have := cutL_part b l w h; simp; omega
    · cases hl : cutL b l with
      | nil => exact absurd hl (cutL_ne b l)
      | cons w' ws =>
        rw [hl] at h
        rcases List.mem_cons.1 h with rfl | h
        · have := cutL_part b l w' (by rw [hl]; simp); simp; omega
        · have := cutL_part b l w (by rw [hl]; simp [h]); simp; omega
theorem cutL_getD (b : UInt8) (l : List UInt8) (j : Nat) : ((cutL b l).getD j default).length ≤ l.length := by
  by_cases h : j < (cutL b l).length
  · have : (cutL b l).getD j default ∈ cutL b l := by simp [h]
    exact cutL_part b l _ this
  · rw [List.getD_eq_getElem?_getD, List.getElem?_eq_none (by omega)]
    show ([] : List UInt8).length ≤ _
    simp

theorem take_drop_one (l : List UInt8) (k : Nat) (h : k < l.length) : (l.take (k + 1)).drop k = [l.getD k 0] := by
  rw [take_succ_getD l 0 k h, List.drop_append_of_le_length (by rw [List.length_take]; omega), List.drop_eq_nil_of_le (by rw [List.length_take]; omega)]; rfl
theorem take_drop_snoc (l : List UInt8) (k f : Nat) (h : k < l.length) (hf : f ≤ k) : (l.take (k + 1)).drop f = (l.take k).drop f ++ [l.getD k 0] := by
  rw [take_succ_getD l 0 k h, List.drop_append_of_le_length (by rw [List.length_take]; omega)]
theorem u8_eq {x b : UInt8} {i : Int} (hb : i = (b.toNat : Int)) (h : (x.toNat : Int) = i) : x = b := by
  have : x.toNat = b.toNat := by omega
  exact UInt8.toNat_inj.1 this
theorem u8_ne {x b : UInt8} {i : Int} (hb : i = (b.toNat : Int)) (h : ¬ (x.toNat : Int) = i) : x ≠ b := fun hh => h (by rw [hb, hh])
theorem tail_getD {α : Type} (ws : List α) (j : Nat) (d : α) : ((ws.take ws.length).drop 1).getD j d = ws.getD (j + 1) d := by
  rw [List.take_length]
  cases ws <;> simp
/-- A graph read from its words; numbers by f. -/
def barW (f : List UInt8 → Int) (w : List UInt8) : Int × Int := (f ((cutL 45 w).getD 0 default), f ((cutL 45 w).getD 1 default))
def barsW (f : List UInt8 → Int) (ws : List (List UInt8)) (i : Nat) : List (Int × Int) := ((ws.take i).drop 1).map (barW f)
theorem barsW_one (f : List UInt8 → Int) (ws : List (List UInt8)) : barsW f ws 1 = [] := by
  unfold barsW
  cases ws <;> simp
theorem barsW_succ (f : List UInt8 → Int) (ws : List (List UInt8)) (i : Nat) (h0 : 1 ≤ i) (h : i < ws.length) : barsW f ws (i + 1) = barsW f ws i ++ [barW f (ws.getD i default)] := by
  unfold barsW
  rw [take_succ_getD ws default i h, List.drop_append_of_le_length (by rw [List.length_take]; omega), List.map_append]; rfl
theorem barsW_len (f : List UInt8 → Int) (ws : List (List UInt8)) (i : Nat) (h : i ≤ ws.length) : (barsW f ws i).length = i - 1 := by
  unfold barsW
  rw [List.length_map, List.length_drop, List.length_take]; omega
noncomputable def numS (l : List UInt8) : Int := if (parseI l).2 = true then (parseI l).1 else -1
noncomputable def numI (l : List UInt8) : Int := (parseI l).1
open Classical in
/-- The graph whose text this is. -/
noncomputable def parseG (s : List UInt8) : Option (Int × List (Int × Int)) := if h : ∃ g : Int × List (Int × Int), isG g.1 g.2 ∧ fmtG g.1 g.2 = s then some h.choose else none

noncomputable def gN (s : List UInt8) : Int := match parseG s with
  | some g => g.1
  | none => 0
noncomputable def gX (s : List UInt8) : List (Int × Int) := match parseG s with
  | some g => g.2
  | none => []

theorem fmt_digits {n : Int} (h0 : 0 ≤ n) (h1 : n ≤ 100) : (∀ b ∈ fmtInt n, b ≠ 32 ∧ b ≠ 45) ∧ parseI (fmtInt n) = (n, true) := by
  obtain ⟨d, e, _, _, hd, _, _⟩ := fmt_shape n (by omega)
  refine ⟨fun b hb => ?_, parseI_eq (by omega) rfl⟩
  rw [e, if_neg (by omega), List.nil_append] at hb
  have := hd b hb
  constructor
  · rintro rfl; revert this; decide
  · rintro rfl; revert this; decide
def wordB (x : Int × Int) : List UInt8 := fmtInt x.1 ++ 45 :: fmtInt x.2
theorem fmtB_word (x : Int × Int) : fmtB x = 32 :: wordB x := by simp [fmtB, wordB]
theorem cut_words : ∀ (xs : List (Int × Int)) (a : List UInt8), 32 ∉ a → (∀ x ∈ xs, 32 ∉ wordB x) → cutL 32 (a ++ xs.flatMap fmtB) = a :: xs.map wordB
  | [], a, ha, _ => by simp [cutL_none 32 a ha]
  | x :: xs, a, ha, hx => by
    rw [List.flatMap_cons, fmtB_word, List.cons_append, cutL_app 32 _ a ha, cut_words xs (wordB x) (hx x (by simp)) (fun y hy => hx y (by simp [hy]))]
    rfl
theorem words_of {n : Int} {xs : List (Int × Int)} (hg : isG n xs) : cutL 32 (fmtG n xs) = (fmtInt n ++ [58]) :: xs.map wordB := by
  have h1 := hg.1
  have h2 := hg.2.1
  unfold fmtG fmtK
  rw [if_pos hg, List.take_length]
  refine cut_words xs _ ?_ ?_
  · intro hm
    rcases List.mem_append.1 hm with hm | hm
    · exact ((fmt_digits (by omega) (by omega)).1 _ hm).1 rfl
    · simp at hm
  · intro x hx hm
    obtain ⟨j, hj, rfl⟩ := List.getElem_of_mem hx
    have hb := gBar hg j hj
    simp only [List.getD_eq_getElem?_getD, List.getElem?_eq_getElem hj, Option.getD_some] at hb
    unfold wordB at hm
    rcases List.mem_append.1 hm with hm | hm
    · exact ((fmt_digits (by omega) (by omega)).1 _ hm).1 rfl
    · rcases List.mem_cons.1 hm with hm | hm
      · revert hm; decide
      · exact ((fmt_digits (by omega) (by omega)).1 _ hm).1 rfl
theorem word_cut {x : Int × Int} (h1 : 0 ≤ x.1 ∧ x.1 ≤ 100) (h2 : 0 ≤ x.2 ∧ x.2 ≤ 100) : cutL 45 (wordB x) = [fmtInt x.1, fmtInt x.2] := by
  unfold wordB
  rw [cutL_app 45 _ _ (fun hm => ((fmt_digits h1.1 h1.2).1 _ hm).2 rfl), cutL_none 45 _ (fun hm => ((fmt_digits h2.1 h2.2).1 _ hm).2 rfl)]
/-- What a reader of numbers has to be. -/
def Reads (f : List UInt8 → Int) : Prop := ∀ l n, parseI l = (n, true) → f l = n
theorem reads_numS : Reads numS := fun l n h => by unfold numS; rw [h]; rfl
theorem reads_numI : Reads numI := fun l n h => by unfold numI; rw [h]
/-- The text of a graph is read back. -/
theorem read_back {f : List UInt8 → Int} (hf : Reads f) {n : Int} {xs : List (Int × Int)} (hg : isG n xs) {s : List UInt8} (hs : fmtG n xs = s) :
    (cutL 32 s).length = xs.length + 1 ∧ (∀ j, 1 ≤ j → j < (cutL 32 s).length → (cutL 45 ((cutL 32 s).getD j default)).length = 2) ∧ 2 ≤ ((cutL 32 s).getD 0 default).length ∧
    f (((cutL 32 s).getD 0 default).take (((cutL 32 s).getD 0 default).length - 1)) = n ∧ barsW f (cutL 32 s) (cutL 32 s).length = xs := by
  subst hs
  have h1 := hg.1
  have h2 := hg.2.1
  rw [words_of hg]
  have hxb : ∀ x ∈ xs, (0 ≤ x.1 ∧ x.1 ≤ 100) ∧ (0 ≤ x.2 ∧ x.2 ≤ 100) := by
    intro x hx
    obtain ⟨j, hj, rfl⟩ := List.getElem_of_mem hx
    have hb := gBar hg j hj
    simp only [List.getD_eq_getElem?_getD, List.getElem?_eq_getElem hj, Option.getD_some] at hb
    omega
  have hn := fmt_digits (n := n) (by omega) (by omega)
  have hlen : 1 ≤ (fmtInt n).length := (fmt_neg n (by omega)).1
  refine ⟨by simp, fun j h0 hj => ?_, by simp; omega, ?_, ?_⟩
  · obtain ⟨i, rfl⟩ : ∃ i, j = i + 1 := ⟨j - 1, by omega⟩
    have hi : i < xs.length := by simpa using hj
    rw [List.getD_cons_succ]
    have : (xs.map wordB).getD i default = wordB xs[i] := by simp [hi]
    rw [this, word_cut (hxb _ (List.getElem_mem hi)).1 (hxb _ (List.getElem_mem hi)).2]; rfl
  · simp only [List.getD_cons_zero, List.length_append, List.length_singleton, Nat.add_sub_cancel, List.take_left']
    exact hf _ _ hn.2
  · unfold barsW
    rw [List.take_length, List.drop_succ_cons, List.drop_zero, List.map_map]
    have : ∀ x ∈ xs, (barW f ∘ wordB) x = x := by
      intro x hx
      obtain ⟨q1, q2⟩ := hxb x hx
      show barW f (wordB x) = x
      unfold barW
      rw [word_cut q1 q2]
      exact Prod.ext (hf _ _ (fmt_digits q1.1 q1.2).2) (hf _ _ (fmt_digits q2.1 q2.2).2)
    rw [List.map_congr_left this]; simp
theorem fmtG_inj {n m : Int} {xs ys : List (Int × Int)} (h1 : isG n xs) (h2 : isG m ys) (h : fmtG n xs = fmtG m ys) : n = m ∧ xs = ys := by
  obtain ⟨_, _, _, a1, a2⟩ := read_back reads_numI h1 rfl
  obtain ⟨_, _, _, b1, b2⟩ := read_back reads_numI h2 rfl
  rw [h] at a1 a2
  exact ⟨a1.symm.trans b1, a2.symm.trans b2⟩
theorem parseG_some {n : Int} {xs : List (Int × Int)} {s : List UInt8} (h : fmtG n xs = s) (hs : s ≠ []) : parseG s = some (n, xs) ∧ isG n xs := by
  have hg : isG n xs := by
    apply Classical.byContradiction
    intro hh
    unfold fmtG at h
    rw [if_neg hh] at h
    exact hs h.symm
  unfold parseG
  have hex : ∃ g : Int × List (Int × Int), isG g.1 g.2 ∧ fmtG g.1 g.2 = s := ⟨(n, xs), hg, h⟩
  rw [dif_pos hex]
  have := fmtG_inj hex.choose_spec.1 hg (hex.choose_spec.2.trans h.symm)
  exact ⟨congrArg some (Prod.ext this.1 this.2), hg⟩
theorem parseG_none {s : List UInt8} (h : ∀ n xs, isG n xs → fmtG n xs ≠ s) : parseG s = none := by
  unfold parseG
  rw [dif_neg (fun ⟨g, h1, h2⟩ => h g.1 g.2 h1 h2)]
/-- The reader fails: no graph has this text. -/
theorem parseG_bad {f : List UInt8 → Int} (hf : Reads f) {s : List UInt8}
    (h : (∃ j, 1 ≤ j ∧ j < (cutL 32 s).length ∧ ((cutL 45 ((cutL 32 s).getD j default)).length ≠ 2 ∨ 25 ≤ j)) ∨ ((cutL 32 s).getD 0 default).length < 2 ∨ s = [] ∨
      fmtG (f (((cutL 32 s).getD 0 default).take (((cutL 32 s).getD 0 default).length - 1))) (barsW f (cutL 32 s) (cutL 32 s).length) ≠ s) : parseG s = none := by
  refine parseG_none fun n xs hg hs => ?_
  obtain ⟨r1, r2, r3, r4, r5⟩ := read_back hf hg hs
  rcases h with ⟨j, h1, h2, h3⟩ | h | h | h
  · rcases h3 with h3 | h3
    · exact h3 (r2 j h1 h2)
    · have := hg.2.2.1; omega
  · omega
  · subst h; simp [cutL] at r3
  · rw [r4, r5] at h; exact h hs
theorem gX_len (s : List UInt8) : (gX s).length ≤ 24 := by
  unfold gX
  cases h : parseG s with
  | none => simp
  | some g =>
    unfold parseG at h
    split at h
    · rename_i hex
      injection h with h
      have := hex.choose_spec.1.2.2.1
      rw [h] at this
      exact this
    · cases h
end Go.Proofs.Ytlcijjkbgcllfaa
