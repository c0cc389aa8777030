/- The library's sort over bars: what it leaves in a row that is owned. No statement of the seat is proved here. -/
import Derived.Test.YtmkalfofmodbdaaMz
import Derived.Test.YtmkalfofmodbdaaTy
import Derived.Shelf.SlSortCmp.NoneTotal
namespace Go.Proofs
open Go.Shelf
def Try.sortL_ren : Go.Shelf.Ren := ⟨fun | 6 => 20 | 15 => 30 | 14 => 29 | 28 => 41 | 29 => 42 | 20 => 33 | 21 => 34 | 22 => 35 | 23 => 36 | 24 => 37 | 25 => 38 | 26 => 39 | 27 => 40 | 46 => 43 | 47 => 44 | 48 => 45 | 49 => 46 | 50 => 47 | 57 => 48 | n => n, fun | 22 => 26 | 24 => 40 | 25 => 45 | 3 => 3 | 39 => 54 | 0 => 0 | 53 => 65 | 55 => 67 | 4 => 4 | 46 => 58 | 45 => 57 | 50 => 62 | 5 => 5 | 9 => 9 | 66 => 68 | 70 => 72 | 76 => 74 | 77 => 75 | n => n, fun | n => n⟩
theorem Try.sortL : Go.Proofs.SlLaysF0.n6 Try.prog Try.sortL_ren := {
  mixed := by kernel_rfl
  f6 := ⟨Try.f20.name, by decide, Try.func20.trans (congrArg some (by kernel_rfl))⟩
  f14 := ⟨Try.f29.name, by decide, Try.func29.trans (congrArg some (by kernel_rfl))⟩
  f15 := Try.func30.trans (congrArg some (by kernel_rfl))
  f20 := ⟨Try.f33.name, by decide, Try.func33.trans (congrArg some (by kernel_rfl))⟩
  f21 := ⟨Try.f34.name, by decide, Try.func34.trans (congrArg some (by kernel_rfl))⟩
  f22 := ⟨Try.f35.name, by decide, Try.func35.trans (congrArg some (by kernel_rfl))⟩
  f23 := ⟨Try.f36.name, by decide, Try.func36.trans (congrArg some (by kernel_rfl))⟩
  f24 := ⟨Try.f37.name, by decide, Try.func37.trans (congrArg some (by kernel_rfl))⟩
  f25 := ⟨Try.f38.name, by decide, Try.func38.trans (congrArg some (by kernel_rfl))⟩
  f26 := ⟨Try.f39.name, by decide, Try.func39.trans (congrArg some (by kernel_rfl))⟩
  f27 := ⟨Try.f40.name, by decide, Try.func40.trans (congrArg some (by kernel_rfl))⟩
  f28 := Try.func41.trans (congrArg some (by kernel_rfl))
  f29 := Try.func42.trans (congrArg some (by kernel_rfl))
  f46 := ⟨Try.f43.name, by decide, Try.func43.trans (congrArg some (by kernel_rfl))⟩
  f47 := Try.func44.trans (congrArg some (by kernel_rfl))
  f48 := Try.func45.trans (congrArg some (by kernel_rfl))
  f49 := ⟨Try.f46.name, by decide, Try.func46.trans (congrArg some (by kernel_rfl))⟩
  f50 := ⟨Try.f47.name, by decide, Try.func47.trans (congrArg some (by kernel_rfl))⟩
  f57 := ⟨Try.f48.name, by decide, Try.func48.trans (congrArg some (by kernel_rfl))⟩
  t0 := Try.underlying0
  a0 := Try.isAgg0
  z0 := Try.sizeOf0
  v0 := Try.zeroValue0
  t3 := Try.underlying3
  a3 := Try.isAgg3
  z3 := Try.sizeOf3
  v3 := Try.zeroValue3
  t4 := Try.underlying4
  a4 := Try.isAgg4
  z4 := Try.sizeOf4
  v4 := Try.zeroValue4
  t5 := Try.underlying5
  a5 := Try.isAgg5
  z5 := Try.sizeOf5
  v5 := Try.zeroValue5
  t9 := Try.underlying9
  a9 := Try.isAgg9
  z9 := Try.sizeOf9
  v9 := Try.zeroValue9
  t22 := Try.underlying26
  a22 := Try.isAgg26
  z22 := Try.sizeOf26
  v22 := Try.zeroValue26
  t25 := Try.underlying45
  a25 := Try.isAgg45
  z25 := Try.sizeOf45
  v25 := Try.zeroValue45
  t39 := Try.underlying54
  a39 := Try.isAgg54
  z39 := Try.sizeOf54
  v39 := Try.zeroValue54
  t45 := Try.underlying57
  a45 := Try.isAgg57
  z45 := Try.sizeOf57
  v45 := Try.zeroValue57
  t46 := Try.underlying58
  a46 := Try.isAgg58
  z46 := Try.sizeOf58
  v46 := Try.zeroValue58
  t50 := Try.underlying62
  a50 := Try.isAgg62
  z50 := Try.sizeOf62
  v50 := Try.zeroValue62
  t53 := Try.underlying65
  a53 := Try.isAgg65
  z53 := Try.sizeOf65
  v53 := Try.zeroValue65
  t55 := Try.underlying67
  a55 := Try.isAgg67
  z55 := Try.sizeOf67
  v55 := Try.zeroValue67
  t66 := Try.underlying68
  a66 := Try.isAgg68
  z66 := Try.sizeOf68
  v66 := Try.zeroValue68
  t70 := Try.underlying72
  a70 := Try.isAgg72
  z70 := Try.sizeOf72
  v70 := Try.zeroValue72
  t76 := Try.underlying74
  a76 := Try.isAgg74
  z76 := Try.sizeOf74
  v76 := Try.zeroValue74
  t77 := Try.underlying75
  a77 := Try.isAgg75
  z77 := Try.sizeOf75
  v77 := Try.zeroValue75 }
end Go.Proofs
namespace Go.Proofs.Ytmkalfofmodbdaa
open Go Go.RowKit Go.Sort Go.Shelf Go.Lib

theorem flattenK_at {sz : Nat} : ∀ (l : List (List Value)) (i : Nat) (x : List Value), (∀ y ∈ l, y.length = sz) → l[i]? = some x → ∀ f u, x[f]? = some u → l.flatten[i * sz + f]? = some u
  | [], i, x, _, hi, _, _, _ => by simp at hi
  | y :: l, 0, x, hs, hi, f, u, hu => by
    simp at hi; subst hi
    have hf := (List.getElem?_eq_some_iff.1 hu).1
    simp only [Nat.zero_mul, Nat.zero_add, List.flatten_cons]
    rw [List.getElem?_append_left hf]; exact hu
  | y :: l, i + 1, x, hs, hi, f, u, hu => by
    have hy : y.length = sz := hs y (by simp)
    simp only [List.getElem?_cons_succ] at hi
    simp only [List.flatten_cons]
    rw [List.getElem?_append_right (by rw [hy, Nat.succ_mul]; omega)]
    have := flattenK_at l i x (fun z hz => hs z (by simp [hz])) hi f u hu
    rw [← this]
    congr 1
    rw [hy, Nat.succ_mul]; omega
theorem bv_len (x : Int × Int) : (bv x).length = 2 := rfl
theorem flatB_get (d : Array (Int × Int)) (t : Nat) (h : t < d.size * 2) : (d.toList.map bv).flatten[t]? = some (flatK bv 2 d)[t]! := by
  have hi : t / 2 < d.size := by omega
  rw [get_flatK bv 2 d t h]
  have := flattenK_at (sz := 2) (d.toList.map bv) (t / 2) (bv d[t / 2]!) (fun y hy => by obtain ⟨x, _, rfl⟩ := List.mem_map.1 hy; rfl) (by simp [hi]) (t % 2) (bv d[t / 2]!)[t % 2]! (by
    have h2 : t % 2 < (bv d[t / 2]!).length := by rw [bv_len]; omega
    rw [List.getElem?_eq_getElem h2, getElem!_pos (bv d[t / 2]!) (t % 2) h2])
  rwa [show t / 2 * 2 + t % 2 = t by omega] at this
theorem bv_one (x : Int × Int) : ∀ v ∈ bv x, v.oneCell' = true := by
  intro v hv
  simp [bv] at hv
  rcases hv with rfl | rfl <;> rfl

section
variable {w : World} {v : Value} {T : TypeId} {xs : List (Int × Int)}
/-- A row of bars that is owned: its place, and what a world of the sort's makes of it. -/
theorem own_sort (h : Own w v T 2 (xs.map bv)) (hne : xs ≠ []) : ∃ g cap, v = .slice (some ⟨g, 0, none⟩) xs.toArray.size cap ∧ HoldsK bv 2 w g 0 xs.toArray ∧ g < w.heap.size ∧
    ∀ (n : Nat) (ys : List (Int × Int)) (os : Array Obj), ys.length = xs.length → Ext w (sortWorldK bv 2 w g 0 n ys.toArray os) (fun k => some k = v.ownBlock) ∧ Own (sortWorldK bv 2 w g 0 n ys.toArray os) v T 2 (ys.map bv) := by
  have hpos : 0 < xs.length := List.length_pos_iff.2 hne
  obtain ⟨g, cap, cur, hv, hg, ⟨tl, htl⟩, hrow⟩ := h.parts (i := 0) (by simpa using hpos)
  rw [List.length_map] at hv hrow
  have hlt : g < w.heap.size := (Array.getElem?_eq_some_iff.1 hg).1
  have hfl : (xs.map bv).flatten.length = xs.length * 2 := by
    have := flatten_len (sz := 2) (xs.map bv) h.size
    rwa [List.length_map] at this
  have hcs : xs.length * 2 ≤ cur.size := by
    rw [← Array.length_toList, htl, List.length_append, hfl]; omega
  refine ⟨g, cap, by simpa using hv, fun j hj => ?_, hlt, fun n ys os hl => ⟨?_, ?_⟩⟩
  · have hj2 : j < xs.toArray.size * 2 := by simpa using hj
    have hj3 : j < xs.length * 2 := by simpa using hj2
    refine ⟨?_, frozen_of_row w g (0 + j) _ T hg⟩
    rw [Nat.zero_add, cell_of_row w g j _ T (0, 0) hg]
    have := flatB_get xs.toArray j hj2
    rw [show cur[j]? = cur.toList[j]? by simp, htl, List.getElem?_append_left (by rw [hfl]; exact hj3)]
    exact this
  · refine ⟨rfl, rfl, rfl, by simp [sortWorldK, putRowK], fun k hk hn => ?_⟩
    have hkg : g ≠ k := fun hh => hn (by rw [hv]; simp [Value.ownBlock, hh])
    unfold sortWorldK
    rw [heap_grow_old _ _ (by simpa [putRowK] using hk)]
    simp only [putRowK, putRow, mapBlock, Array.getElem?_modify, if_neg hkg]
    rfl
  · have hb : (sortWorldK bv 2 w g 0 n ys.toArray os).heap[g]? = some (.cells (putCells id 0 (flatK bv 2 ys.toArray) cur) T (0, 0)) := by
      unfold sortWorldK
      rw [heap_grow_old _ _ (by simpa [putRowK] using hlt)]
      simp only [putRowK, putRow, mapBlock, Array.getElem?_modify, if_true]
      show Option.map _ w.heap[g]? = _
      rw [hg]; rfl
    refine hrow _ (ys.map bv) _ hb (by simp [hl]) (fun y hy => by obtain ⟨x, _, rfl⟩ := List.mem_map.1 hy; rfl) (by simp [putCells]) ⟨cur.toList.drop (ys.length * 2), ?_⟩
    have hfl2 : (ys.map bv).flatten.length = ys.length * 2 := by
      have := flatten_len (sz := 2) (ys.map bv) (fun y hy => by obtain ⟨x, _, rfl⟩ := List.mem_map.1 hy; rfl)
      rwa [List.length_map] at this
    apply List.ext_getElem?
    intro j
    by_cases hj : j < ys.length * 2
    · have := flatB_get ys.toArray j (by simpa using hj)
      rw [List.getElem?_append_left (by rw [hfl2]; exact hj), this]
      have hjc : j < cur.size := by omega
      have hjf : j < (flatK bv 2 ys.toArray).size := by simpa using hj
      simp only [putCells, Array.getElem?_toList, Array.getElem?_mapIdx, Nat.zero_le, Nat.zero_add, true_and, hjf, if_true, Array.getElem?_eq_getElem hjc, Option.map_some, Nat.sub_zero, id]
    · rw [List.getElem?_append_right (by rw [hfl2]; omega), hfl2, List.getElem?_drop, show ys.length * 2 + (j - ys.length * 2) = j by omega]
      have hjf : ¬ j < (flatK bv 2 ys.toArray).size := by simpa using hj
      simp only [putCells, Array.getElem?_toList, Array.getElem?_mapIdx, Nat.zero_le, Nat.zero_add, true_and, hjf, if_false]
      cases cur[j]? <;> rfl
end

theorem ltOf_cmp (x y : Int × Int) : ltOf cmpB x y = ltB x y := rfl
theorem ltB_iff (x y : Int × Int) : ltB x y = true ↔ ¬ leB y x := by
  rw [← cmpB_ge]; unfold ltB; rw [decide_eq_true_eq]; omega
theorem ltB_not (x y : Int × Int) : ltB x y = false ↔ leB y x := by
  rw [← cmpB_ge]; unfold ltB; rw [decide_eq_false_iff_not]; omega
theorem swoB : SWO (ltOf cmpB) where
  irrefl x := by rw [ltOf_cmp, ltB_not]; unfold leB; omega
  trans x y z h1 h2 := by rw [ltOf_cmp, ltB_iff] at *; unfold leB at *; omega
  ntrans x y z h1 h2 := by rw [ltOf_cmp, ltB_not] at *; unfold leB at *; omega
theorem totB (x y : Int × Int) (h1 : ltOf cmpB x y = false) (h2 : ltOf cmpB y x = false) : x = y := by
  rw [ltOf_cmp, ltB_not] at *; exact leB_antisymm h2 h1

/-! ### The comparison -/
theorem cmpI_any (a b : Int) (W : World) : Calls Try.prog 31 #[.int .i64 a, .int .i64 b] W fun e w' => e = .returned (.int .i64 (cmpI a b)) ∧ w' = W := by
  go_enter Try.func31, Try.ntmps31
  go_wp2
  all_goals go_ret
  · exact ⟨by unfold cmpI; rw [if_pos (by assumption)]; rfl, rfl⟩
  · exact ⟨by unfold cmpI; rw [if_neg (by omega), if_pos (by assumption)]; rfl, rfl⟩
  · exact ⟨by unfold cmpI; rw [if_neg (by omega), if_neg (by omega)]; rfl, rfl⟩
theorem cmpB_any (x y : Int × Int) (W : World) : Calls Try.prog 21 #[.agg #[.int .i64 x.1, .int .i64 x.2], .agg #[.int .i64 y.1, .int .i64 y.2]] W fun e w' => e = .returned (.int .i64 (cmpB x y)) ∧ ∃ q os', w' = grow (W.drewN q) os' := by
  go_enter Try.func21, Try.ntmps21
  go_wp2_with (go_at_call 31; refine (cmpI_any _ _ _).mono ?_; rintro e w' ⟨rfl, rfl⟩)
  all_goals go_ret
  all_goals rename_i h
  · exact ⟨by unfold cmpB; rw [if_pos (by simpa using h)]; rfl, 0, _, by rw [alloc_eq_grow, alloc_eq_grow, grow_grow]; rfl⟩
  · exact ⟨by unfold cmpB; rw [if_neg (by simpa using h)]; rfl, 0, _, by rw [alloc_eq_grow, alloc_eq_grow, grow_grow]; rfl⟩
theorem cmpLaysB (blk off size : Nat) (w : World) : CmpLays Try.prog 21 #[] bv 2 cmpB blk off size w :=
  fun _ _ _ _ x y => cmpB_any x y _

/-! ### The sort, called -/
set_option maxRecDepth 4000
section
variable {fn : Func} {w0 : World} {mu : Nat → Prop} {R : Ending → World → Prop} {e : Env} {m : List En} {dst : Option Tmp} {ty : TypeId} {pos : String} {aft : Array Edge} {g : Option (Nat × Bool)}
theorem isAggB (w : World) : (isAgg 40).run Try.prog w = .ok true w := run_isAgg_flat (P := Try.prog) (T := 40) w
theorem sizeOfB (w : World) : (Go.sizeOf 40).run Try.prog w = .ok 2 w := run_sizeOf_flat (P := Try.prog) (T := 40) w
theorem EF.sortRow {x : Operand} {v : Value} {T : TypeId} {ls : List (List Value)} {r : List En} {ts : Array TypeId} (xs : List (Int × Int)) (hx : ev e x = some v) [hm : RowI m v T 2 ls r] (hls : ls = xs.map bv) (hne : xs ≠ []) (hl : xs.length ≤ 1048576) :
    EF ⟨Try.prog, fn, w0, mu, R⟩ e m ⟨dst, .call ⟨.value (.func 20), #[x, .func 21], ts⟩, ty, pos, aft, g⟩ Unit (fun _ => True) (fun _ => .tuple #[]) (fun _ => .row v T 2 ((sortB xs).map bv) :: r) := by
  subst hls
  refine EF.call (xs := [x, .func 21]) (vs := [v, .func (.func 21) #[] #[]]) (.cons hx (.cons rfl .nil)) (fun w hS => ?_)
  have hS' := hS.perm hm.perm
  have hown : Own w v T 2 (xs.map bv) := hS'.holds _ (List.mem_cons_self ..)
  obtain ⟨gb, cap, hv, hH, hblk, hpost⟩ := own_sort hown hne
  have eg : ∀ args w, (callFunc 21 args).run Try.prog w = .ok (.enter 21 args) w := fun args w => run_callFunc args w
  have hcon := AnyQ.slices_SortFunc_total Try.sortL 2 isAggB sizeOfB bv (fun _ => rfl) bv_one cmpB swoB 21 #[] gb 0 cap xs.toArray w eg (cmpLaysB gb 0 xs.toArray.size w) hH hblk (by simp; omega) totB
  rw [← hv] at hcon
  refine hcon.mono ?_
  rintro en w' ⟨rfl, n, os, rfl⟩
  obtain ⟨h1, h2⟩ := hpost n (sortB xs) os (sortB_len xs)
  refine ⟨(), rfl, trivial, hS'.write (x := .row v T 2 (xs.map bv)) (y := .row v T 2 ((sortB xs).map bv)) (h1.mono fun k _ hk => hk.symm) h2 (fun b hb => .inl hb) rfl⟩
end
end Go.Proofs.Ytmkalfofmodbdaa
