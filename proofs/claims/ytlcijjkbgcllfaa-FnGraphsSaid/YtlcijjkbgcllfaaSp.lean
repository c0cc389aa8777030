/- The library's sort over bars: what it leaves in a row that is owned. No statement of the seat is proved here. -/
import Derived.Test.YtlcijjkbgcllfaaMz
import Derived.Test.YtlcijjkbgcllfaaTy
import Derived.Shelf.SlSortCmp.NoneTotal
namespace Go.Proofs
open Go.Shelf
def Try.sortL_ren : Go.Shelf.Ren := ⟨fun | 6 => 112 | 15 => 151 | 14 => 150 | 28 => 166 | 29 => 167 | 20 => 158 | 21 => 159 | 22 => 160 | 23 => 161 | 24 => 162 | 25 => 163 | 26 => 164 | 27 => 165 | 46 => 171 | 47 => 172 | 48 => 173 | 49 => 174 | 50 => 175 | 57 => 176 | n => n, fun | 22 => 24 | 24 => 50 | 25 => 97 | 3 => 3 | 39 => 132 | 0 => 0 | 53 => 146 | 55 => 148 | 4 => 4 | 46 => 140 | 45 => 139 | 50 => 102 | 5 => 5 | 9 => 9 | 66 => 153 | 70 => 157 | 76 => 159 | 77 => 41 | n => n, fun | n => n⟩
theorem Try.sortL : Go.Proofs.SlLaysF0.n6 Try.prog Try.sortL_ren := {
  mixed := by kernel_rfl
  f6 := ⟨Try.f112.name, by decide, Try.func112.trans (congrArg some (by kernel_rfl))⟩
  f14 := ⟨Try.f150.name, by decide, Try.func150.trans (congrArg some (by kernel_rfl))⟩
  f15 := Try.func151.trans (congrArg some (by kernel_rfl))
  f20 := ⟨Try.f158.name, by decide, Try.func158.trans (congrArg some (by kernel_rfl))⟩
  f21 := ⟨Try.f159.name, by decide, Try.func159.trans (congrArg some (by kernel_rfl))⟩
  f22 := ⟨Try.f160.name, by decide, Try.func160.trans (congrArg some (by kernel_rfl))⟩
  f23 := ⟨Try.f161.name, by decide, Try.func161.trans (congrArg some (by kernel_rfl))⟩
  f24 := ⟨Try.f162.name, by decide, Try.func162.trans (congrArg some (by kernel_rfl))⟩
  f25 := ⟨Try.f163.name, by decide, Try.func163.trans (congrArg some (by kernel_rfl))⟩
  f26 := ⟨Try.f164.name, by decide, Try.func164.trans (congrArg some (by kernel_rfl))⟩
  f27 := ⟨Try.f165.name, by decide, Try.func165.trans (congrArg some (by kernel_rfl))⟩
  f28 := Try.func166.trans (congrArg some (by kernel_rfl))
  f29 := Try.func167.trans (congrArg some (by kernel_rfl))
  f46 := ⟨Try.f171.name, by decide, Try.func171.trans (congrArg some (by kernel_rfl))⟩
  f47 := Try.func172.trans (congrArg some (by kernel_rfl))
  f48 := Try.func173.trans (congrArg some (by kernel_rfl))
  f49 := ⟨Try.f174.name, by decide, Try.func174.trans (congrArg some (by kernel_rfl))⟩
  f50 := ⟨Try.f175.name, by decide, Try.func175.trans (congrArg some (by kernel_rfl))⟩
  f57 := ⟨Try.f176.name, by decide, Try.func176.trans (congrArg some (by kernel_rfl))⟩
  t0 := Try.underlying0
  a0 := Try.isAgg0
  z0 := Try.sizeOf0
  v0 := Try.zeroValue0
  t3 := Try.underlying3
  a3 := Try.isAgg3
  z3 := Try.sizeOf3
  v3 := Try.zeroValue3
  t4 := Try.underlying4
  a4 := Try.isAgg4
  z4 := Try.sizeOf4
  v4 := Try.zeroValue4
  t5 := Try.underlying5
  a5 := Try.isAgg5
  z5 := Try.sizeOf5
  v5 := Try.zeroValue5
  t9 := Try.underlying9
  a9 := Try.isAgg9
  z9 := Try.sizeOf9
  v9 := Try.zeroValue9
  t22 := Try.underlying24
  a22 := Try.isAgg24
  z22 := Try.sizeOf24
  v22 := Try.zeroValue24
  t25 := Try.underlying97
  a25 := Try.isAgg97
  z25 := Try.sizeOf97
  v25 := Try.zeroValue97
  t39 := Try.underlying132
  a39 := Try.isAgg132
  z39 := Try.sizeOf132
  v39 := Try.zeroValue132
  t45 := Try.underlying139
  a45 := Try.isAgg139
  z45 := Try.sizeOf139
  v45 := Try.zeroValue139
  t46 := Try.underlying140
  a46 := Try.isAgg140
  z46 := Try.sizeOf140
  v46 := Try.zeroValue140
  t50 := Try.underlying102
  a50 := Try.isAgg102
  z50 := Try.sizeOf102
  v50 := Try.zeroValue102
  t53 := Try.underlying146
  a53 := Try.isAgg146
  z53 := Try.sizeOf146
  v53 := Try.zeroValue146
  t55 := Try.underlying148
  a55 := Try.isAgg148
  z55 := Try.sizeOf148
  v55 := Try.zeroValue148
  t66 := Try.underlying153
  a66 := Try.isAgg153
  z66 := Try.sizeOf153
  v66 := Try.zeroValue153
  t70 := Try.underlying157
  a70 := Try.isAgg157
  z70 := Try.sizeOf157
  v70 := Try.zeroValue157
  t76 := Try.underlying159
  a76 := Try.isAgg159
  z76 := Try.sizeOf159
  v76 := Try.zeroValue159
  t77 := Try.underlying41
  a77 := Try.isAgg41
  z77 := Try.sizeOf41
  v77 := Try.zeroValue41 }
end Go.Proofs
namespace Go.Proofs.Ytlcijjkbgcllfaa
open Go Go.RowKit Go.Sort Go.Shelf Go.Lib

theorem flattenK_at {sz : Nat} : ∀ (l : List (List Value)) (i : Nat) (x : List Value), (∀ y ∈ l, y.length = sz) → l[i]? = some x → ∀ f u, x[f]? = some u → l.flatten[i * sz + f]? = some u
  | [], i, x, _, hi, _, _, _ => by simp at hi
  | y :: l, 0, x, hs, hi, f, u, hu => by
    simp at hi; subst hi
    have hf := (List.getElem?_eq_some_iff.1 hu).1
    simp only [Nat.zero_mul, Nat.zero_add, List.flatten_cons]
    rw [List.getElem?_append_left hf]; exact hu
  | y :: l, i + 1, x, hs, hi, f, u, hu => by
    have hy : y.length = sz := hs y (by simp)
    simp only [List.getElem?_cons_succ] at hi
    simp only [List.flatten_cons]
    rw [List.getElem?_append_right (by rw [hy, Nat.succ_mul]; omega)]
    have := flattenK_at l i x (fun z hz => hs z (by simp [hz])) hi f u hu
    rw [← this]
    congr 1
    rw [hy, Nat.succ_mul]; omega
theorem bv_len (x : Int × Int) : (bv x).length = 2 := rfl
theorem flatB_get (d : Array (Int × Int)) (t : Nat) (h : t < d.size * 2) : (d.toList.map bv).flatten[t]? = some (flatK bv 2 d)[t]! := by
  have hi : t / 2 < d.size := by omega
  rw [get_flatK bv 2 d t h]
  have := flattenK_at (sz := 2) (d.toList.map bv) (t / 2) (bv d[t / 2]!) (fun y hy => by obtain ⟨x, _, rfl⟩ := List.mem_map.1 hy; rfl) (by simp [hi]) (t % 2) (bv d[t / 2]!)[t % 2]! (by
    have h2 : t % 2 < (bv d[t / 2]!).length := by rw [bv_len]; omega
    rw [List.getElem?_eq_getElem h2, getElem!_pos (bv d[t / 2]!) (t % 2) h2])
  rwa [show t / 2 * 2 + t % 2 = t by omega] at this
theorem bv_one (x : Int × Int) : ∀ v ∈ bv x, v.oneCell' = true := by
  intro v hv
  simp [bv] at hv
  rcases hv with rfl | rfl <;> rfl

section
variable {w : World} {v : Value} {T : TypeId} {xs : List (Int × Int)}
/-- A row of bars that is owned: its place, and what a world of the sort's makes of it. -/
theorem own_sort (h : Own w v T 2 (xs.map bv)) (hne : xs ≠ []) : ∃ g cap, v = .slice (some ⟨g, 0, none⟩) xs.toArray.size cap ∧ HoldsK bv 2 w g 0 xs.toArray ∧ g < w.heap.size ∧
    ∀ (n : Nat) (ys : List (Int × Int)) (os : Array Obj), ys.length = xs.length → Ext w (sortWorldK bv 2 w g 0 n ys.toArray os) (fun k => some k = v.ownBlock) ∧ Own (sortWorldK bv 2 w g 0 n ys.toArray os) v T 2 (ys.map bv) := by
  have hpos : 0 < xs.length := List.length_pos_iff.2 hne
  obtain ⟨g, cap, cur, hv, hg, ⟨tl, htl⟩, hrow⟩ := h.parts (i := 0) (by simpa using hpos)
  rw [List.length_map] at hv hrow
  have hlt : g < w.heap.size := (Array.getElem?_eq_some_iff.1 hg).1
  have hfl : (xs.map bv).flatten.length = xs.length * 2 := by
    have := flatten_len (sz := 2) (xs.map bv) h.size
    rwa [List.length_map] at this
  have hcs : xs.length * 2 ≤ cur.size := by
    rw [← Array.length_toList, htl, List.length_append, hfl]; omega
  refine ⟨g, cap, by simpa using hv, fun j hj => ?_, hlt, fun n ys os hl => ⟨?_, ?_⟩⟩
  · have hj2 : j < xs.toArray.size * 2 := by simpa using hj
    have hj3 : j < xs.length * 2 := by simpa using hj2
    refine ⟨?_, frozen_of_row w g (0 + j) _ T hg⟩
    rw [Nat.zero_add, cell_of_row w g j _ T (0, 0) hg]
    have := flatB_get xs.toArray j hj2
    rw [show cur[j]? = cur.toList[j]? by simp, htl, List.getElem?_append_left (by rw [hfl]; exact hj3)]
    exact this
  · refine ⟨rfl, rfl, rfl, by simp [sortWorldK, putRowK], fun k hk hn => ?_⟩
    have hkg : g ≠ k := fun hh => hn (by rw [hv]; simp [Value.ownBlock, hh])
    unfold sortWorldK
    rw [heap_grow_old _ _ (by simpa [putRowK] using hk)]
    simp only [putRowK, putRow, mapBlock, Array.getElem?_modify, if_neg hkg]
    rfl
  · have hb : (sortWorldK bv 2 w g 0 n ys.toArray os).heap[g]? = some (.cells (putCells id 0 (flatK bv 2 ys.toArray) cur) T (0, 0)) := by
      unfold sortWorldK
      rw [heap_grow_old _ _ (by simpa [putRowK] using hlt)]
      simp only [putRowK, putRow, mapBlock, Array.getElem?_modify, if_true]
      show Option.map _ w.heap[g]? = _
      rw [hg]; rfl
    refine hrow _ (ys.map bv) _ hb (by simp [hl]) (fun y hy => by obtain ⟨x, _, rfl⟩ := List.mem_map.1 hy; rfl) (by simp [putCells]) ⟨cur.toList.drop (ys.length * 2), ?_⟩
    have hfl2 : (ys.map bv).flatten.length = ys.length * 2 := by
      have := flatten_len (sz := 2) (ys.map bv) (fun y hy => by obtain ⟨x, _, rfl⟩ := List.mem_map.1 hy; rfl)
      rwa [List.length_map] at this
    apply List.ext_getElem?
    intro j
    by_cases hj : j < ys.length * 2
    · have := flatB_get ys.toArray j (by simpa using hj)
      rw [List.getElem?_append_left (by rw [hfl2]; exact hj), this]
      have hjc : j < cur.size := by omega
      have hjf : j < (flatK bv 2 ys.toArray).size := by simpa using hj
      simp only [putCells, Array.getElem?_toList, Array.getElem?_mapIdx, Nat.zero_le, Nat.zero_add, true_and, hjf, if_true, Array.getElem?_eq_getElem hjc, Option.map_some, Nat.sub_zero, id]
    · rw [List.getElem?_append_right (by rw [hfl2]; omega), hfl2, List.getElem?_drop, show ys.length * 2 + (j - ys.length * 2) = j by omega]
      have hjf : ¬ j < (flatK bv 2 ys.toArray).size := by simpa using hj
      simp only [putCells, Array.getElem?_toList, Array.getElem?_mapIdx, Nat.zero_le, Nat.zero_add, true_and, hjf, if_false]
      cases cur[j]? <;> rfl
end

theorem ltOf_cmp (x y : Int × Int) : ltOf cmpB x y = ltB x y := rfl
theorem ltB_iff (x y : Int × Int) : ltB x y = true ↔ ¬ leB y x := by
  rw [← cmpB_ge]; unfold ltB; rw [decide_eq_true_eq]; omega
theorem ltB_not (x y : Int × Int) : ltB x y = false ↔ leB y x := by
  rw [← cmpB_ge]; unfold ltB; rw [decide_eq_false_iff_not]; omega
theorem swoB : SWO (ltOf cmpB) where
  irrefl x := by rw [ltOf_cmp, ltB_not]; unfold leB; omega
  trans x y z h1 h2 := by rw [ltOf_cmp, ltB_iff] at *; unfold leB at *; omega
  ntrans x y z h1 h2 := by rw [ltOf_cmp, ltB_not] at *; unfold leB at *; omega
theorem totB (x y : Int × Int) (h1 : ltOf cmpB x y = false) (h2 : ltOf cmpB y x = false) : x = y := by
  rw [ltOf_cmp, ltB_not] at *; exact leB_antisymm h2 h1

/-! ### The comparison -/
theorem cmpI_any (a b : Int) (W : World) : Calls Try.prog 152 #[.int .i64 a, .int .i64 b] W fun e w' => e = .returned (.int .i64 (cmpI a b)) ∧ w' = W := by
  go_enter Try.func152, Try.ntmps152
  go_wp2
  all_goals go_ret
  · exact ⟨by unfold cmpI; rw [if_pos (by assumption)]; rfl, rfl⟩
  · exact ⟨by unfold cmpI; rw [if_neg (by omega), if_pos (by assumption)]; rfl, rfl⟩
  · exact ⟨by unfold cmpI; rw [if_neg (by omega), if_neg (by omega)]; rfl, rfl⟩
theorem cmpB_any (x y : Int × Int) (W : World) : Calls Try.prog 113 #[.agg #[.int .i64 x.1, .int .i64 x.2], .agg #[.int .i64 y.1, .int .i64 y.2]] W fun e w' => e = .returned (.int .i64 (cmpB x y)) ∧ ∃ q os', w' = grow (W.drewN q) os' := by
  go_enter Try.func113, Try.ntmps113
  go_wp2_with (go_at_call 152; refine (cmpI_any _ _ _).mono ?_; rintro e w' ⟨rfl, rfl⟩)
  all_goals go_ret
  all_goals rename_i h
  · exact ⟨by unfold cmpB; rw [if_pos (by simpa using h)]; rfl, 0, _, by rw [alloc_eq_grow, alloc_eq_grow, grow_grow]; rfl⟩
  · exact ⟨by unfold cmpB; rw [if_neg (by simpa using h)]; rfl, 0, _, by rw [alloc_eq_grow, alloc_eq_grow, grow_grow]; rfl⟩
theorem cmpLaysB (blk off size : Nat) (w : World) : CmpLays Try.prog 113 #[] bv 2 cmpB blk off size w :=
  fun _ _ _ _ x y => cmpB_any x y _

/-! ### The sort, called -/
set_option maxRecDepth 4000
section
variable {fn : Func} {w0 : World} {mu : Nat → Prop} {R : Ending → World → Prop} {e : Env} {m : List En} {dst : Option Tmp} {ty : TypeId} {pos : String} {aft : Array Edge} {g : Option (Nat × Bool)}
theorem isAggB (w : World) : (isAgg 50).run Try.prog w = .ok true w := run_isAgg_flat (P := Try.prog) (T := 50) w
theorem sizeOfB (w : World) : (Go.sizeOf 50).run Try.prog w = .ok 2 w := run_sizeOf_flat (P := Try.prog) (T := 50) w
theorem EF.sortRow {x : Operand} {v : Value} {T : TypeId} {ls : List (List Value)} {r : List En} {ts : Array TypeId} (xs : List (Int × Int)) (hx : ev e x = some v) [hm : RowI m v T 2 ls r] (hls : ls = xs.map bv) (hne : xs ≠ []) (hl : xs.length ≤ 1048576) :
    EF ⟨Try.prog, fn, w0, mu, R⟩ e m ⟨dst, .call ⟨.value (.func 112), #[x, .func 113], ts⟩, ty, pos, aft, g⟩ Unit (fun _ => True) (fun _ => .tuple #[]) (fun _ => .row v T 2 ((sortB xs).map bv) :: r) := by
  subst hls
  refine EF.call (xs := [x, .func 113]) (vs := [v, .func (.func 113) #[] #[]]) (.cons hx (.cons rfl .nil)) (fun w hS => ?_)
  have hS' := hS.perm hm.perm
  have hown : Own w v T 2 (xs.map bv) := hS'.holds _ (List.mem_cons_self ..)
  obtain ⟨gb, cap, hv, hH, hblk, hpost⟩ := own_sort hown hne
  have eg : ∀ args w, (callFunc 113 args).run Try.prog w = .ok (.enter 113 args) w := fun args w => run_callFunc args w
  have hcon := AnyQ.slices_SortFunc_total Try.sortL 2 isAggB sizeOfB bv (fun _ => rfl) bv_one cmpB swoB 113 #[] gb 0 cap xs.toArray w eg (cmpLaysB gb 0 xs.toArray.size w) hH hblk (by simp; omega) totB
  rw [← hv] at hcon
  refine hcon.mono ?_
  rintro en w' ⟨rfl, n, os, rfl⟩
  obtain ⟨h1, h2⟩ := hpost n (sortB xs) os (sortB_len xs)
  refine ⟨(), rfl, trivial, hS'.write (x := .row v T 2 (xs.map bv)) (y := .row v T 2 ((sortB xs).map bv)) (h1.mono fun k _ hk => hk.symm) h2 (fun b hb => .inl hb) rfl⟩
end
end Go.Proofs.Ytlcijjkbgcllfaa
