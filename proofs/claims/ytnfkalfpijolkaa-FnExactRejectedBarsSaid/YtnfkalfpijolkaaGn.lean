/- Contracts of functions of the program, each walked once; written by a program of our own. -/
import Derived.Test.YtnfkalfpijolkaaGm
namespace Go.Proofs.Ytnfkalfpijolkaa
open Go Go.RowKit
set_option maxRecDepth 4000

def putR (b : Bool) (ys r : List (Int × Int)) (x : Int × Int) : List (Int × Int) := if b = true then ys ++ r else ys ++ putL r x
theorem drop_cons {xs : List (Int × Int)} {c : Nat} (h : c < xs.length) : xs.drop c = xs.getD c default :: xs.drop (c + 1) := by
  rw [List.drop_eq_getElem_cons h, List.getD_eq_getElem?_getD, List.getElem?_eq_getElem h]; rfl
theorem putR_stay {xs ys : List (Int × Int)} {x : Int × Int} {c : Nat} (h : c < xs.length) (hl : leB (xs.getD c default) x) : putR false (ys ++ [xs.getD c default]) (xs.drop (c + 1)) x = putR false ys (xs.drop c) x := by
  unfold putR
  rw [if_neg (by decide), if_neg (by decide), drop_cons h, putL, if_pos hl, List.append_assoc]; rfl
theorem putR_put {xs ys : List (Int × Int)} {x : Int × Int} {c : Nat} (h : c < xs.length) (hl : ¬ leB (xs.getD c default) x) : putR true (ys ++ [x] ++ [xs.getD c default]) (xs.drop (c + 1)) x = putR false ys (xs.drop c) x := by
  unfold putR
  rw [if_pos rfl, if_neg (by decide), drop_cons h, putL, if_neg hl, List.append_assoc, List.append_assoc]; rfl
theorem putR_past {xs ys : List (Int × Int)} {x : Int × Int} {c : Nat} (h : c < xs.length) : putR true (ys ++ [xs.getD c default]) (xs.drop (c + 1)) x = putR true ys (xs.drop c) x := by
  unfold putR
  rw [if_pos rfl, if_pos rfl, drop_cons h, List.append_assoc]; rfl
theorem putR_end {xs ys : List (Int × Int)} {x : Int × Int} {c : Nat} {b : Bool} (h : ¬ c < xs.length) : putR b ys (xs.drop c) x = if b = true then ys else ys ++ [x] := by
  unfold putR
  rw [List.drop_eq_nil_of_le (by omega), List.append_nil]; rfl
theorem l2Put_c (n : Int) (v : Value) (xs : List (Int × Int)) (x : Int × Int) (w : World) (hr : Rd w v 2 (xs.map bv)) (hxl : xs.length ≤ 1048576) :
    CN Try.prog 47 [.agg #[.int .i64 n, v], .agg (bv x).toArray] w Value (fun _ => True) (fun u => .agg #[.int .i64 n, u]) (fun u => [.row u 58 2 ((putL xs x).map bv)]) := by
  refine calls_of_J (mu := (fun _ => False)) (m := [.ro v 2 (xs.map bv)]) (e := [(0, .agg #[.int .i64 n, v]), (1, .agg (bv x).toArray)]) Try.func47 rfl rfl (.cons rfl (.cons rfl .nil)) (((St.init _ _).ro0 hr (by decide))) ?_
  refine J.seq ?_
  refine J.reg ?_
  refine WL.efS (EF.boxA rfl) rfl rfl ?_
  intro b2 _
  refine WL.efS (EF.boxA rfl) rfl rfl ?_
  intro b3 _
  refine WL.efS (EF.allocA) rfl rfl ?_
  intro b4 _
  refine WL.nil ?_
  refine JE.seqN ?_
  refine J.seq ?_
  refine J.reg ?_
  refine WL.rd (RD.fieldC rfl rfl) rfl rfl ?_
  refine WL.rd (RD.loadC rfl rfl) rfl rfl ?_
  refine WL.efS (EF.build0) rfl rfl ?_
  intro v10 _
  refine WL.rd (RD.build (n := 2) (.cons rfl (.cons rfl .nil)) rfl) rfl rfl ?_
  refine WL.efS (EF.allocA) rfl rfl ?_
  intro b5 _
  refine WL.efN (EF.storeA rfl rfl rfl rfl) rfl ?_
  rintro ⟨⟩ -
  refine WL.nil ?_
  refine JE.seqN ?_
  refine J.seq ?_
  refine J.reg ?_
  refine WL.rd (RD.assign rfl) rfl rfl ?_
  refine WL.nil ?_
  refine JE.seqN ?_
  refine J.seq ?_
  refine J.seq ?_
  refine J.reg ?_
  refine WL.rd (RD.assign rfl) rfl rfl ?_
  refine WL.nil ?_
  refine JE.seqN ?_
  refine J.block ?_
  refine J.loop (fun gg ee mm => ∃ (c : Nat), ∃ (b : Bool), ∃ (ys : List (Int × Int)), ∃ (u : Value), gg = xs.length - c ∧ ((c ≤ xs.length) ∧ (ys.length ≤ c + 1 ∧ (b = false → ys.length ≤ c)) ∧ (putR b ys (xs.drop c) x = putL xs x)) ∧ ee = [(6, .bool b), (7, .int .i64 (c : Int)), (2, .pointer (some ⟨b2, 0, none⟩)), (3, .pointer (some ⟨b3, 0, none⟩)), (4, .pointer (some ⟨b4, 0, none⟩)), (5, .pointer (some ⟨b5, 0, none⟩))] ∧ mm = [.cells b5 29 [.int .i64 n, u], .row u 58 2 ((ys).map bv), .cells b4 29 [.int .i64 0, .slice none 0 0], .cells b3 58 [.int .i64 x.1, .int .i64 x.2], .cells b2 29 [.int .i64 n, v], .ro v 2 (xs.map bv)]) _ ⟨0, false, [], v10, rfl, ?_, rfl, rfl⟩ ?_ ?_ ?_
  · exact ⟨by omega, ⟨by simp, fun _ => by simp⟩, rfl⟩
  · exact (Sub.consE rfl (by first | rfl | (congr 1; omega) | (simp; done)) (Sub.consE rfl (by first | rfl | (congr 1; omega) | (simp; done)) (Sub.consE rfl (by first | rfl | (congr 1; omega) | (simp; done)) (Sub.consE rfl (by first | rfl | (congr 1; omega) | (simp; done)) (Sub.consE rfl (by first | rfl | (congr 1; omega) | (simp; done)) (Sub.consE rfl (by first | rfl | (congr 1; omega) | (simp; done)) .nil))))))
  · exact (SubM.cells rfl (by first | rfl | (simp; done)) (SubM.row rfl rfl (by first | rfl | (simp [iv, bv, yv, tv, sv]; done)) (SubM.cells rfl (by first | rfl | (simp; done)) (SubM.cells rfl (by first | rfl | (simp; done)) (SubM.cells rfl (by first | rfl | (simp; done)) (SubM.ro rfl (by first | rfl | (simp [iv, bv, yv, tv, sv]; done)) .nil))))))
  · rintro g _ _ ⟨c, b, ys, u, rfl, hI, rfl, rfl⟩
    refine J.seq ?_
    refine J.seq ?_
    refine J.reg ?_
    refine WL.rd (RD.move rfl) rfl rfl ?_
    refine WL.rd (RD.fieldC rfl rfl) rfl rfl ?_
    refine WL.rd (RD.loadC rfl rfl) rfl rfl ?_
    refine WL.rd (RD.lenR rfl) rfl rfl ?_
    refine WL.rd (RD.lss rfl rfl) rfl rfl ?_
    refine WL.nil ?_
    refine JE.seqN ?_
    refine J.condP rfl (fun hc16 => ?_) (fun hc16 => ?_)
    ·
      refine J.skip ?_
      refine JE.seqN ?_
      refine J.seq ?_
      refine J.block ?_
      refine J.seq ?_
      refine J.seq ?_
      refine J.anyAll [] ?_
      refine WA.takeP 0 rfl (RDP.of fun _ => RD.move rfl) rfl (by kernel_rfl) rfl ?_
      refine WA.takeP 1 rfl (RDP.of fun _ => RD.not rfl) rfl (by kernel_rfl) rfl ?_
      refine WA.takeP 2 rfl (RDP.of fun _ => RD.move rfl) rfl (by kernel_rfl) rfl ?_
      refine WA.case 21 rfl (fun hg21 => ?_) (fun hg21 => ?_)
      ·
        refine WA.takeP 3 rfl (RDP.of fun _ => RD.fieldC rfl rfl) rfl (by kernel_rfl) rfl ?_
        refine WA.take 4 rfl (RD.loadC rfl rfl) rfl (by kernel_rfl) rfl ?_
        refine WA.takeP 5 rfl (RDP.of fun _ => RD.move rfl) rfl (by kernel_rfl) rfl ?_
        refine WA.takeP 6 rfl (RDP.idx rfl rfl (by omega) rfl) rfl (by kernel_rfl) rfl ?_
        refine WA.take 7 rfl (RD.loadEA rfl (by omega) rfl) rfl (by kernel_rfl) rfl ?_
        refine WA.take 8 rfl (RD.loadA rfl rfl) rfl (by kernel_rfl) rfl ?_
        refine WA.one (i := 9) (by kernel_rfl) ?_
        refine WAi.efS rfl (EF.callS (.cons rfl (.cons rfl .nil)) (fun w hS => l2After_c _ _ _)) rfl rfl (fun _ => SubI.sub) ?_
        rintro ⟨⟩ -
        refine WA.takeP 10 rfl (RDP.of fun _ => RD.notP rfl) rfl (by kernel_rfl) rfl ?_
        refine WA.takeP 11 rfl (RDP.of fun _ => RD.pickT rfl rfl) rfl (by kernel_rfl) rfl ?_
        refine WA.done (by kernel_rfl) ?_
        refine JE.seqN ?_
        refine J.condP rfl (fun hc30 => ?_) (fun hc30 => ?_)
        ·
          refine J.seq ?_
          refine J.reg ?_
          refine WL.rd (RD.fieldC rfl rfl) rfl rfl ?_
          refine WL.rd (RD.loadC rfl rfl) rfl rfl ?_
          refine WL.rd (RD.loadA rfl rfl) rfl rfl ?_
          refine WL.efS (EF.build1P rfl) rfl rfl ?_
          intro v34 _
          refine WL.efS (EF.append rfl rfl (by omega) rfl rfl rfl) rfl rfl ?_
          intro v35 _
          refine WL.rd (RD.fieldC rfl rfl) rfl rfl ?_
          refine WL.efN (EF.storeC rfl rfl rfl) rfl ?_
          rintro ⟨⟩ -
          refine WL.nil ?_
          refine JE.seqN ?_
          refine J.reg ?_
          refine WL.rd (RD.assign rfl) rfl rfl ?_
          refine WL.nil ?_
          refine JE.seqN ?_
          refine J.anyDrop [10] (v35) ?_
          refine WA.takeP 0 rfl (RDP.of fun _ => RD.fieldC rfl rfl) rfl (by kernel_rfl) rfl ?_
          refine WA.take 1 rfl (RD.loadC rfl rfl) rfl (by kernel_rfl) rfl ?_
          refine WA.takeP 2 rfl (RDP.of fun _ => RD.fieldC rfl rfl) rfl (by kernel_rfl) rfl ?_
          refine WA.take 3 rfl (RD.loadC rfl rfl) rfl (by kernel_rfl) rfl ?_
          refine WA.takeP 4 rfl (RDP.of fun _ => RD.move rfl) rfl (by kernel_rfl) rfl ?_
          refine WA.takeP 5 rfl (RDP.idx rfl rfl (by omega) rfl) rfl (by kernel_rfl) rfl ?_
          refine WA.take 6 rfl (RD.loadEA rfl (by omega) rfl) rfl (by kernel_rfl) rfl ?_
          refine WA.one (i := 7) (by kernel_rfl) ?_
          refine WAi.efS rfl (EF.build1P rfl) rfl rfl (fun _ => SubI.sub) ?_
          intro v44 _
          refine WA.one (i := 8) (by kernel_rfl) ?_
          refine WAi.efS rfl (EF.append rfl rfl (by omega) rfl rfl rfl) rfl rfl (fun _ => SubI.sub) ?_
          intro v45 _
          refine WA.takeP 9 rfl (RDP.of fun _ => RD.fieldC rfl rfl) rfl (by kernel_rfl) rfl ?_
          refine WA.one (i := 10) (by kernel_rfl) ?_
          refine WAi.efNL rfl (EF.storeC rfl rfl rfl) rfl rfl ?_
          rintro ⟨⟩ -
          refine WB.done (by kernel_rfl) ?_
          refine JE.blockN ?_
          refine JE.seqN ?_
          refine J.reg ?_
          refine WL.rd (RD.move rfl) rfl rfl ?_
          refine WL.rd (RD.add rfl rfl (by omega) (by omega)) rfl rfl ?_
          refine WL.rd (RD.assign rfl) rfl rfl ?_
          refine WL.nil ?_
          refine JE.cutN ⟨_, ?_, c + 1, true, (ys ++ [x] ++ [(xs.getD c default)]), v45, rfl, ?_, rfl, rfl⟩ ?_ ?_
          · omega
          · have hb : b = false := (by simpa using hg21); have hyl := hI.2.1.2 hb; subst hb; exact ⟨by omega, ⟨by simp; omega, fun h => by cases h⟩, by rw [putR_put (by omega) hc30]; exact hI.2.2⟩
          · exact (Sub.consE rfl (by first | rfl | (congr 1; omega) | (simp; done)) (Sub.consE rfl (by first | rfl | (congr 1; omega) | (simp; done)) (Sub.consE rfl (by first | rfl | (congr 1; omega) | (simp; done)) (Sub.consE rfl (by first | rfl | (congr 1; omega) | (simp; done)) (Sub.consE rfl (by first | rfl | (congr 1; omega) | (simp; done)) (Sub.consE rfl (by first | rfl | (congr 1; omega) | (simp; done)) .nil))))))
          · exact (SubM.cells rfl (by first | rfl | (simp; done)) (SubM.row rfl rfl (by first | rfl | (simp [iv, bv, yv, tv, sv]; done)) (SubM.cells rfl (by first | rfl | (simp; done)) (SubM.cells rfl (by first | rfl | (simp; done)) (SubM.cells rfl (by first | rfl | (simp; done)) (SubM.ro rfl (by first | rfl | (simp [iv, bv, yv, tv, sv]; done)) .nil))))))
        ·
          refine J.skip ?_
          refine JE.seqN ?_
          refine J.anyDrop [10] (u) ?_
          refine WA.takeP 0 rfl (RDP.of fun _ => RD.fieldC rfl rfl) rfl (by kernel_rfl) rfl ?_
          refine WA.take 1 rfl (RD.loadC rfl rfl) rfl (by kernel_rfl) rfl ?_
          refine WA.takeP 2 rfl (RDP.of fun _ => RD.fieldC rfl rfl) rfl (by kernel_rfl) rfl ?_
          refine WA.take 3 rfl (RD.loadC rfl rfl) rfl (by kernel_rfl) rfl ?_
          refine WA.takeP 4 rfl (RDP.of fun _ => RD.move rfl) rfl (by kernel_rfl) rfl ?_
          refine WA.takeP 5 rfl (RDP.idx rfl rfl (by omega) rfl) rfl (by kernel_rfl) rfl ?_
          refine WA.take 6 rfl (RD.loadEA rfl (by omega) rfl) rfl (by kernel_rfl) rfl ?_
          refine WA.one (i := 7) (by kernel_rfl) ?_
          refine WAi.efS rfl (EF.build1P rfl) rfl rfl (fun _ => SubI.sub) ?_
          intro v44 _
          refine WA.one (i := 8) (by kernel_rfl) ?_
          refine WAi.efS rfl (EF.append rfl rfl (by omega) rfl rfl rfl) rfl rfl (fun _ => SubI.sub) ?_
          intro v45 _
          refine WA.takeP 9 rfl (RDP.of fun _ => RD.fieldC rfl rfl) rfl (by kernel_rfl) rfl ?_
          refine WA.one (i := 10) (by kernel_rfl) ?_
          refine WAi.efNL rfl (EF.storeC rfl rfl rfl) rfl rfl ?_
          rintro ⟨⟩ -
          refine WB.done (by kernel_rfl) ?_
          refine JE.blockN ?_
          refine JE.seqN ?_
          refine J.reg ?_
          refine WL.rd (RD.move rfl) rfl rfl ?_
          refine WL.rd (RD.add rfl rfl (by omega) (by omega)) rfl rfl ?_
          refine WL.rd (RD.assign rfl) rfl rfl ?_
          refine WL.nil ?_
          refine JE.cutN ⟨_, ?_, c + 1, b, (ys ++ [(xs.getD c default)]), v45, rfl, ?_, rfl, rfl⟩ ?_ ?_
          · omega
          · have hb : b = false := (by simpa using hg21); have hyl := hI.2.1.2 hb; subst hb; exact ⟨by omega, ⟨by simp; omega, fun _ => by simp; omega⟩, by rw [putR_stay (by omega) (Decidable.not_not.1 hc30)]; exact hI.2.2⟩
          · exact (Sub.consE rfl (by first | rfl | (congr 1; omega) | (simp; done)) (Sub.consE rfl (by first | rfl | (congr 1; omega) | (simp; done)) (Sub.consE rfl (by first | rfl | (congr 1; omega) | (simp; done)) (Sub.consE rfl (by first | rfl | (congr 1; omega) | (simp; done)) (Sub.consE rfl (by first | rfl | (congr 1; omega) | (simp; done)) (Sub.consE rfl (by first | rfl | (congr 1; omega) | (simp; done)) .nil))))))
          · exact (SubM.cells rfl (by first | rfl | (simp; done)) (SubM.row rfl rfl (by first | rfl | (simp [iv, bv, yv, tv, sv]; done)) (SubM.cells rfl (by first | rfl | (simp; done)) (SubM.cells rfl (by first | rfl | (simp; done)) (SubM.cells rfl (by first | rfl | (simp; done)) (SubM.ro rfl (by first | rfl | (simp [iv, bv, yv, tv, sv]; done)) .nil))))))
      ·
        refine WA.no 3 rfl rfl (by kernel_rfl) rfl ?_
        refine WA.no 4 rfl rfl (by kernel_rfl) rfl ?_
        refine WA.no 5 rfl rfl (by kernel_rfl) rfl ?_
        refine WA.no 6 rfl rfl (by kernel_rfl) rfl ?_
        refine WA.no 7 rfl rfl (by kernel_rfl) rfl ?_
        refine WA.no 8 rfl rfl (by kernel_rfl) rfl ?_
        refine WA.no 9 rfl rfl (by kernel_rfl) rfl ?_
        refine WA.no 10 rfl rfl (by kernel_rfl) rfl ?_
        refine WA.takeP 11 rfl (RDP.of fun _ => RD.pickF rfl rfl) rfl (by kernel_rfl) rfl ?_
        refine WA.done (by kernel_rfl) ?_
        refine JE.seqN ?_
        refine J.condF rfl ?_
        refine J.skip ?_
        refine JE.seqN ?_
        refine J.anyDrop [10] (u) ?_
        refine WA.takeP 0 rfl (RDP.of fun _ => RD.fieldC rfl rfl) rfl (by kernel_rfl) rfl ?_
        refine WA.take 1 rfl (RD.loadC rfl rfl) rfl (by kernel_rfl) rfl ?_
        refine WA.takeP 2 rfl (RDP.of fun _ => RD.fieldC rfl rfl) rfl (by kernel_rfl) rfl ?_
        refine WA.take 3 rfl (RD.loadC rfl rfl) rfl (by kernel_rfl) rfl ?_
        refine WA.takeP 4 rfl (RDP.of fun _ => RD.move rfl) rfl (by kernel_rfl) rfl ?_
        refine WA.takeP 5 rfl (RDP.idx rfl rfl (by omega) rfl) rfl (by kernel_rfl) rfl ?_
        refine WA.take 6 rfl (RD.loadEA rfl (by omega) rfl) rfl (by kernel_rfl) rfl ?_
        refine WA.one (i := 7) (by kernel_rfl) ?_
        refine WAi.efS rfl (EF.build1P rfl) rfl rfl (fun _ => SubI.sub) ?_
        intro v44 _
        refine WA.one (i := 8) (by kernel_rfl) ?_
        refine WAi.efS rfl (EF.append rfl rfl (by omega) rfl rfl rfl) rfl rfl (fun _ => SubI.sub) ?_
        intro v45 _
        refine WA.takeP 9 rfl (RDP.of fun _ => RD.fieldC rfl rfl) rfl (by kernel_rfl) rfl ?_
        refine WA.one (i := 10) (by kernel_rfl) ?_
        refine WAi.efNL rfl (EF.storeC rfl rfl rfl) rfl rfl ?_
        rintro ⟨⟩ -
        refine WB.done (by kernel_rfl) ?_
        refine JE.blockN ?_
        refine JE.seqN ?_
        refine J.reg ?_
        refine WL.rd (RD.move rfl) rfl rfl ?_
        refine WL.rd (RD.add rfl rfl (by omega) (by omega)) rfl rfl ?_
        refine WL.rd (RD.assign rfl) rfl rfl ?_
        refine WL.nil ?_
        refine JE.cutN ⟨_, ?_, c + 1, b, (ys ++ [(xs.getD c default)]), v45, rfl, ?_, rfl, rfl⟩ ?_ ?_
        · omega
        · have hb : b = true := (by simpa using hg21); have hyl := hI.2.1.1; subst hb; exact ⟨by omega, ⟨by simp; omega, fun h => by cases h⟩, by rw [putR_past (by omega)]; exact hI.2.2⟩
        · exact (Sub.consE rfl (by first | rfl | (congr 1; omega) | (simp; done)) (Sub.consE rfl (by first | rfl | (congr 1; omega) | (simp; done)) (Sub.consE rfl (by first | rfl | (congr 1; omega) | (simp; done)) (Sub.consE rfl (by first | rfl | (congr 1; omega) | (simp; done)) (Sub.consE rfl (by first | rfl | (congr 1; omega) | (simp; done)) (Sub.consE rfl (by first | rfl | (congr 1; omega) | (simp; done)) .nil))))))
        · exact (SubM.cells rfl (by first | rfl | (simp; done)) (SubM.row rfl rfl (by first | rfl | (simp [iv, bv, yv, tv, sv]; done)) (SubM.cells rfl (by first | rfl | (simp; done)) (SubM.cells rfl (by first | rfl | (simp; done)) (SubM.cells rfl (by first | rfl | (simp; done)) (SubM.ro rfl (by first | rfl | (simp [iv, bv, yv, tv, sv]; done)) .nil))))))
    ·
      refine J.exit ?_
      refine JE.seqX ?_
      refine JE.cutX ?_
      refine JE.blockHit ?_
      refine JE.seqN ?_
      refine J.seq ?_
      refine J.seq ?_
      refine J.reg ?_
      refine WL.rd (RD.move rfl) rfl rfl ?_
      refine WL.rd (RD.not rfl) rfl rfl ?_
      refine WL.nil ?_
      refine JE.seqN ?_
      refine J.cond rfl (fun hc48 => ?_) (fun hc48 => ?_)
      ·
        refine J.reg ?_
        refine WL.rd (RD.fieldC rfl rfl) rfl rfl ?_
        refine WL.rd (RD.loadC rfl rfl) rfl rfl ?_
        refine WL.rd (RD.loadA rfl rfl) rfl rfl ?_
        refine WL.efS (EF.build1P rfl) rfl rfl ?_
        intro v52 _
        refine WL.efS (EF.append rfl rfl (by omega) rfl rfl rfl) rfl rfl ?_
        intro v53 _
        refine WL.rd (RD.fieldC rfl rfl) rfl rfl ?_
        refine WL.efN (EF.storeC rfl rfl rfl) rfl ?_
        rintro ⟨⟩ -
        refine WL.nil ?_
        refine JE.seqN ?_
        refine J.seq ?_
        refine J.reg ?_
        refine WL.rd (RD.loadA rfl rfl) rfl rfl ?_
        refine WL.efN (EF.storeA rfl rfl rfl rfl) rfl ?_
        rintro ⟨⟩ -
        refine WL.nil ?_
        refine JE.seqN ?_
        refine J.ret ?_
        refine JE.ret rfl (ResL.flat rfl rfl .nil) (fun w hS => ?_)
        exact CN.fin hS v53 rfl trivial (SubM.row rfl rfl (by rw [← hI.2.2, putR_end (by omega), if_neg (by simpa using hc48)]) .nil) (by simp [En.rdb])
      ·
        refine J.skip ?_
        refine JE.seqN ?_
        refine J.seq ?_
        refine J.reg ?_
        refine WL.rd (RD.loadA rfl rfl) rfl rfl ?_
        refine WL.efN (EF.storeA rfl rfl rfl rfl) rfl ?_
        rintro ⟨⟩ -
        refine WL.nil ?_
        refine JE.seqN ?_
        refine J.ret ?_
        refine JE.ret rfl (ResL.flat rfl rfl .nil) (fun w hS => ?_)
        exact CN.fin hS u rfl trivial (SubM.row rfl rfl (by rw [← hI.2.2, putR_end (by omega), if_pos (by simpa using hc48)]) .nil) (by simp [En.rdb])
theorem l6Rank_c (n : Int) (v : Value) (xs : List (Int × Int)) (w : World) (hr : Rd w v 2 (xs.map bv)) (hn : 1 ≤ n ∧ n ≤ 8) (hG : GoodL n.toNat xs) (hxl : xs.length ≤ 1048576) :
    CS Try.prog 48 [.agg #[.int .i64 n, v]] w (.int .i64 (rk2 n xs : Int)) := by
  have hng : isG n [] ∧ 1 ≤ (2 : Int) ∧ (2 : Int) ≤ 3 := ⟨⟨by omega, by omega, by simp, fun j hj => by simp at hj⟩, by decide, by decide⟩
  refine calls_of_J (mu := (fun _ => False)) (m := [.ro v 2 (xs.map bv)]) (e := [(0, .agg #[.int .i64 n, v])]) Try.func48 rfl rfl (.cons rfl .nil) (((St.init _ _).ro0 hr (by decide))) ?_
  refine J.seq ?_
  refine J.reg ?_
  refine WL.efS (EF.boxA rfl) rfl rfl ?_
  intro b1 _
  refine WL.rd (RD.assign rfl) rfl rfl ?_
  refine WL.nil ?_
  refine JE.seqN ?_
  refine J.seq ?_
  refine J.nilRow 58 2 ?_
  refine J.reg ?_
  refine WL.rd (RD.fieldC rfl rfl) rfl rfl ?_
  refine WL.rd (RD.loadC rfl rfl) rfl rfl ?_
  refine WL.rd (RD.build (n := 2) (.cons rfl .nil) rfl) rfl rfl ?_
  refine WL.efS (EF.callN (.cons rfl (.cons rfl .nil)) (fun w hS => sNewPebbles_c _ _ [] _ _ (by exact RdI.rd hS))) rfl rfl ?_
  rintro ⟨f13, t13, p13⟩ -
  refine WL.rd (RD.move rfl) rfl rfl ?_
  refine WL.rd (RD.extract rfl rfl) rfl rfl ?_
  refine WL.rd (RD.extract rfl rfl) rfl rfl ?_
  refine WL.efS (EF.allocA) rfl rfl ?_
  intro b3 _
  refine WL.efN (EF.storeA rfl rfl rfl rfl) rfl ?_
  rintro ⟨⟩ -
  refine WL.rd (RD.assign rfl) rfl rfl ?_
  refine WL.nil ?_
  refine JE.seqN ?_
  refine J.seq ?_
  refine J.reg ?_
  refine WL.rd (RD.assign rfl) rfl rfl ?_
  refine WL.nil ?_
  refine JE.seqN ?_
  refine J.seq ?_
  refine J.seq ?_
  refine J.reg ?_
  refine WL.rd (RD.assign rfl) rfl rfl ?_
  refine WL.nil ?_
  refine JE.seqN ?_
  refine J.block ?_
  refine J.loop (fun gg ee mm => ∃ (e : Nat), ∃ (uf : Value), ∃ (ut : Value), ∃ (up : Value), gg = xs.length - e ∧ ((e ≤ xs.length)) ∧ ee = [(5, .int .i64 ((playP n.toNat xs 2 3 e).pl.length : Int)), (6, .int .i64 (e : Int)), (1, .pointer (some ⟨b1, 0, none⟩)), (3, .pointer (some ⟨b3, 0, none⟩))] ∧ mm = [.cells b3 45 [uf, ut, up], .row uf 3 1 (((playP n.toNat xs 2 3 e).f).map iv), .row ut 3 1 (((playP n.toNat xs 2 3 e).t).map iv), .row up 3 1 (((playP n.toNat xs 2 3 e).pl).map iv), .cells b1 29 [.int .i64 n, v], .ro v 2 (xs.map bv)]) _ ⟨0, f13, t13, p13, rfl, ?_, rfl, rfl⟩ ?_ ?_ ?_
  · omega
  · exact (Sub.consE rfl (by rfl) (Sub.consE rfl (by first | rfl | (congr 1; omega) | (simp; done)) (Sub.consE rfl (by first | rfl | (congr 1; omega) | (simp; done)) (Sub.consE rfl (by first | rfl | (congr 1; omega) | (simp; done)) .nil))))
  · exact (SubM.cells rfl (by first | rfl | (simp; done)) (SubM.row rfl rfl (by rw [if_pos hng]; rfl) (SubM.row rfl rfl (by rfl) (SubM.row rfl rfl (by rfl) (SubM.cells rfl (by first | rfl | (simp; done)) (SubM.ro rfl (by first | rfl | (simp [iv, bv, yv, tv, sv]; done)) .nil))))))
  · rintro g _ _ ⟨e, uf, ut, up, rfl, hI, rfl, rfl⟩
    have hok := (play_ok (n := n) (k := 2) (l := 3) ⟨by decide, by decide⟩ ⟨by decide, by decide⟩ hG e (by omega)).1
    have q1 := hok.fl
    have q2 := hok.pv.tl
    have q3 := asc_len hok
    refine J.seq ?_
    refine J.seq ?_
    refine J.reg ?_
    refine WL.rd (RD.move rfl) rfl rfl ?_
    refine WL.rd (RD.fieldC rfl rfl) rfl rfl ?_
    refine WL.rd (RD.loadC rfl rfl) rfl rfl ?_
    refine WL.rd (RD.lenR rfl) rfl rfl ?_
    refine WL.rd (RD.lss rfl rfl) rfl rfl ?_
    refine WL.nil ?_
    refine JE.seqN ?_
    refine J.condP rfl (fun hc20 => ?_) (fun hc20 => ?_)
    ·
      refine J.skip ?_
      refine JE.seqN ?_
      refine J.seq ?_
      refine J.block ?_
      refine J.seq ?_
      obtain ⟨e1, e2, e3⟩ := hG.e e (by omega)
      unfold exs at e1 e2 e3
      have hgs := gathP_spec (n := n.toNat) (k := 2) (xs := xs) (a := (xs.getD e default).1) (b := (xs.getD e default).2) (want := 4) (by omega) (by omega) (by omega) 8 (⟨(playP n.toNat xs 2 3 e).f, (playP n.toNat xs 2 3 e).t, (playP n.toNat xs 2 3 e).pl⟩ : PS) hok (by have h1 := hok.pos (xs.getD e default).1 (by omega) (by omega); have h2 := hok.pos (xs.getD e default).2 (by omega) (by omega); simp only; omega)
      have hgl : (gathP n.toNat xs (xs.getD e default).1 (xs.getD e default).2 4 8 (⟨(playP n.toNat xs 2 3 e).f, (playP n.toNat xs 2 3 e).t, (playP n.toNat xs 2 3 e).pl⟩ : PS)).1.f.length = n.toNat := hgs.1.fl
      have hgt : (gathP n.toNat xs (xs.getD e default).1 (xs.getD e default).2 4 8 (⟨(playP n.toNat xs 2 3 e).f, (playP n.toNat xs 2 3 e).t, (playP n.toNat xs 2 3 e).pl⟩ : PS)).1.t.length = (playP n.toNat xs 2 3 e).pl.length := by rw [hgs.1.pv.tl, hgs.2.1]
      have hgp : (gathP n.toNat xs (xs.getD e default).1 (xs.getD e default).2 4 8 (⟨(playP n.toNat xs 2 3 e).f, (playP n.toNat xs 2 3 e).t, (playP n.toNat xs 2 3 e).pl⟩ : PS)).1.pl.length = (playP n.toNat xs 2 3 e).pl.length := by rw [hgs.2.1]
      have hv1 := fv_rng hgs.1 (v := (xs.getD e default).1) (by omega) (by omega)
      have hv2 := fv_rng hgs.1 (v := (xs.getD e default).2) (by omega) (by omega)
      simp only [gI] at hv1 hv2
      refine J.anyAll [19, 20] ?_
      refine WA.take 0 rfl (RD.loadA rfl rfl) rfl (by kernel_rfl) rfl ?_
      refine WA.take 1 rfl (RD.loadA rfl rfl) rfl (by kernel_rfl) rfl ?_
      refine WA.takeP 2 rfl (RDP.of fun _ => RD.fieldC rfl rfl) rfl (by kernel_rfl) rfl ?_
      refine WA.take 3 rfl (RD.loadC rfl rfl) rfl (by kernel_rfl) rfl ?_
      refine WA.takeP 4 rfl (RDP.of fun _ => RD.move rfl) rfl (by kernel_rfl) rfl ?_
      refine WA.takeP 5 rfl (RDP.idx rfl rfl (by omega) rfl) rfl (by kernel_rfl) rfl ?_
      refine WA.takeP 6 rfl (RDP.of fun _ => RD.fieldE rfl rfl) rfl (by kernel_rfl) rfl ?_
      refine WA.take 7 rfl (RD.loadE rfl (by omega) rfl) rfl (by kernel_rfl) rfl ?_
      refine WA.takeP 8 rfl (RDP.of fun _ => RD.fieldC rfl rfl) rfl (by kernel_rfl) rfl ?_
      refine WA.take 9 rfl (RD.loadC rfl rfl) rfl (by kernel_rfl) rfl ?_
      refine WA.takeP 10 rfl (RDP.of fun _ => RD.move rfl) rfl (by kernel_rfl) rfl ?_
      refine WA.takeP 11 rfl (RDP.idx rfl rfl (by omega) rfl) rfl (by kernel_rfl) rfl ?_
      refine WA.takeP 12 rfl (RDP.of fun _ => RD.fieldE rfl rfl) rfl (by kernel_rfl) rfl ?_
      refine WA.take 13 rfl (RD.loadE rfl (by omega) rfl) rfl (by kernel_rfl) rfl ?_
      refine WA.two (i := 14) (j := 18) (by kernel_rfl) ?_ ?_
      ·
        refine WAi.efS rfl (EF.callN (.cons rfl (.cons rfl (.cons rfl (.cons rfl (.cons rfl .nil))))) (fun w hS => l4Gather_i _ 2 _ xs _ _ _ _ _ _ _ _ _ _ (by omega) (by omega) (by omega) hok (by exact RdI.rd hS) (by exact RdI.rd hS) (by exact RdI.rd hS) (by exact RdI.rd hS) (by omega) (by omega) (by omega) (by omega))) rfl rfl (fun _ => SubI.sub) ?_
        rintro ⟨f38, t38, p38⟩ -
        refine WA.takeP 15 rfl (RDP.of fun _ => RD.move rfl) rfl (by kernel_rfl) rfl ?_
        refine WA.takeP 16 rfl (RDP.of fun _ => RD.extract rfl rfl) rfl (by kernel_rfl) rfl ?_
        refine WA.takeP 17 rfl (RDP.of fun _ => RD.extract rfl rfl) rfl (by kernel_rfl) rfl ?_
        refine WA.one (i := 18) (by kernel_rfl) ?_
        refine WAi.efS rfl (by exact EF.allocA) rfl rfl (fun _ => SubI.sub) ?_
        intro b7 _
        refine WA.one (i := 19) (by kernel_rfl) ?_
        refine WAi.efNL rfl (EF.storeA rfl rfl rfl rfl) rfl rfl ?_
        rintro ⟨⟩ -
        refine WB.takeP 20 rfl (RDP.of fun _ => RD.assign rfl) rfl (by kernel_rfl) rfl ?_
        refine WB.done (by kernel_rfl) ?_
        refine JE.seqN ?_
        refine J.seq ?_
        refine J.seq ?_
        refine J.reg ?_
        refine WL.rd (RD.move rfl) rfl rfl ?_
        refine WL.rd (RD.not rfl) rfl rfl ?_
        refine WL.nil ?_
        refine JE.seqN ?_
        refine J.cond rfl (fun hc42 => ?_) (fun hc42 => ?_)
        ·
          have hG2 : (gathP n.toNat xs (xs.getD e default).1 (xs.getD e default).2 4 8 (⟨(playP n.toNat xs 2 3 e).f, (playP n.toNat xs 2 3 e).t, (playP n.toNat xs 2 3 e).pl⟩ : PS)).2 = false := by simpa using hc42
          have hs6 : (placeP n.toNat xs 3 (playP n.toNat xs 2 3 e) e).isSome = false := by rw [place_isSome]; exact hG2
          refine J.exit ?_
          refine JE.seqX ?_
          refine JE.blockHit ?_
          refine JE.seqN ?_
          refine J.reg ?_
          refine WL.rd (RD.move rfl) rfl rfl ?_
          refine WL.rd (RD.add rfl rfl (by omega) (by omega)) rfl rfl ?_
          refine WL.rd (RD.assign rfl) rfl rfl ?_
          refine WL.nil ?_
          refine JE.cutN ⟨_, ?_, e + 1, uf, ut, up, rfl, ?_, rfl, rfl⟩ ?_ ?_
          · omega
          · omega
          · exact (Sub.consE rfl (by first | (rw [play_no hs6]; done) | (rw [play_yes hs6, hpc]; unfold putP; simp only [List.length_append, List.length_singleton, hgp]; rfl)) (Sub.consE rfl (by first | rfl | (congr 1; omega) | (simp; done)) (Sub.consE rfl (by first | rfl | (congr 1; omega) | (simp; done)) (Sub.consE rfl (by first | rfl | (congr 1; omega) | (simp; done)) .nil))))
          · exact (SubM.cells rfl (by first | rfl | (simp; done)) (SubM.row rfl rfl (by rw [play_no hs6]) (SubM.row rfl rfl (by rw [play_no hs6]) (SubM.row rfl rfl (by rw [play_no hs6]) (SubM.cells rfl (by first | rfl | (simp; done)) (SubM.ro rfl (by first | rfl | (simp [iv, bv, yv, tv, sv]; done)) .nil))))))
        ·
          have hG2 : (gathP n.toNat xs (xs.getD e default).1 (xs.getD e default).2 4 8 (⟨(playP n.toNat xs 2 3 e).f, (playP n.toNat xs 2 3 e).t, (playP n.toNat xs 2 3 e).pl⟩ : PS)).2 = true := by simpa using hc42
          have hs6 : (placeP n.toNat xs 3 (playP n.toNat xs 2 3 e) e).isSome = true := by rw [place_isSome]; exact hG2
          have hsum := hgs.2.2.1 hG2
          simp only [gI] at hsum
          have ht : tailP (gathP n.toNat xs (xs.getD e default).1 (xs.getD e default).2 4 8 (⟨(playP n.toNat xs 2 3 e).f, (playP n.toNat xs 2 3 e).t, (playP n.toNat xs 2 3 e).pl⟩ : PS)).1 (exs xs e) = (xs.getD e default).1 := by unfold tailP exs gI; rw [if_neg (by omega)]
          have hpc : plcP n.toNat xs 3 (playP n.toNat xs 2 3 e) e = putP (gathP n.toNat xs (xs.getD e default).1 (xs.getD e default).2 4 8 (⟨(playP n.toNat xs 2 3 e).f, (playP n.toNat xs 2 3 e).t, (playP n.toNat xs 2 3 e).pl⟩ : PS)).1 (exs xs e) e := plc_yes hG2
          refine J.skip ?_
          refine JE.seqN ?_
          refine J.seq ?_
          refine J.anyAll [20] ?_
          refine WA.takeP 0 rfl (RDP.of fun _ => RD.fieldC rfl rfl) rfl (by kernel_rfl) rfl ?_
          refine WA.take 1 rfl (RD.loadC rfl rfl) rfl (by kernel_rfl) rfl ?_
          refine WA.takeP 2 rfl (RDP.of fun _ => RD.fieldC rfl rfl) rfl (by kernel_rfl) rfl ?_
          refine WA.take 3 rfl (RD.loadC rfl rfl) rfl (by kernel_rfl) rfl ?_
          refine WA.takeP 4 rfl (RDP.of fun _ => RD.move rfl) rfl (by kernel_rfl) rfl ?_
          refine WA.takeP 5 rfl (RDP.idx rfl rfl (by omega) rfl) rfl (by kernel_rfl) rfl ?_
          refine WA.takeP 6 rfl (RDP.of fun _ => RD.fieldE rfl rfl) rfl (by kernel_rfl) rfl ?_
          refine WA.take 7 rfl (RD.loadE rfl (by omega) rfl) rfl (by kernel_rfl) rfl ?_
          refine WA.takeP 8 rfl (RDP.of fun _ => RD.fieldC rfl rfl) rfl (by kernel_rfl) rfl ?_
          refine WA.take 9 rfl (RD.loadC rfl rfl) rfl (by kernel_rfl) rfl ?_
          refine WA.takeP 10 rfl (RDP.of fun _ => RD.fieldC rfl rfl) rfl (by kernel_rfl) rfl ?_
          refine WA.take 11 rfl (RD.loadC rfl rfl) rfl (by kernel_rfl) rfl ?_
          refine WA.takeP 12 rfl (RDP.of fun _ => RD.move rfl) rfl (by kernel_rfl) rfl ?_
          refine WA.takeP 13 rfl (RDP.idx rfl rfl (by omega) rfl) rfl (by kernel_rfl) rfl ?_
          refine WA.takeP 14 rfl (RDP.of fun _ => RD.fieldE rfl rfl) rfl (by kernel_rfl) rfl ?_
          refine WA.take 15 rfl (RD.loadE rfl (by omega) rfl) rfl (by kernel_rfl) rfl ?_
          refine WA.takeP 16 rfl (RDP.idx (j := (xs.getD e default).1.toNat) (hj := ⟨by omega⟩) rfl rfl (by omega) rfl) rfl (by kernel_rfl) rfl ?_
          refine WA.take 17 rfl (RD.loadE rfl (by omega) rfl) rfl (by kernel_rfl) rfl ?_
          refine WA.takeP 18 rfl (RDP.of fun _ => RD.sub rfl rfl (by omega) (by omega)) rfl (by kernel_rfl) rfl ?_
          refine WA.takeP 19 rfl (RDP.idx (j := (xs.getD e default).1.toNat) (hj := ⟨by omega⟩) rfl rfl (by omega) rfl) rfl (by kernel_rfl) rfl ?_
          refine WA.one (i := 20) (by kernel_rfl) ?_
          refine WAi.efNL rfl (EF.storeI rfl rfl (by omega) rfl rfl) rfl rfl ?_
          rintro ⟨⟩ -
          refine WB.done (by kernel_rfl) ?_
          refine JE.seqN ?_
          refine J.seq ?_
          refine J.anyDrop [11] (t38) ?_
          refine WA.takeP 0 rfl (RDP.of fun _ => RD.fieldC rfl rfl) rfl (by kernel_rfl) rfl ?_
          refine WA.take 1 rfl (RD.loadC rfl rfl) rfl (by kernel_rfl) rfl ?_
          refine WA.takeP 2 rfl (RDP.of fun _ => RD.fieldC rfl rfl) rfl (by kernel_rfl) rfl ?_
          refine WA.take 3 rfl (RD.loadC rfl rfl) rfl (by kernel_rfl) rfl ?_
          refine WA.takeP 4 rfl (RDP.of fun _ => RD.move rfl) rfl (by kernel_rfl) rfl ?_
          refine WA.takeP 5 rfl (RDP.idx rfl rfl (by omega) rfl) rfl (by kernel_rfl) rfl ?_
          refine WA.takeP 6 rfl (RDP.of fun _ => RD.fieldE rfl rfl) rfl (by kernel_rfl) rfl ?_
          refine WA.take 7 rfl (RD.loadE rfl (by omega) rfl) rfl (by kernel_rfl) rfl ?_
          refine WA.one (i := 8) (by kernel_rfl) ?_
          refine WAi.efS rfl (EF.build1 rfl) rfl rfl (fun _ => SubI.sub) ?_
          intro v71 _
          refine WA.one (i := 9) (by kernel_rfl) ?_
          refine WAi.efS rfl (EF.append rfl rfl (by omega) rfl rfl rfl) rfl rfl (fun _ => SubI.sub) ?_
          intro v72 _
          refine WA.takeP 10 rfl (RDP.of fun _ => RD.fieldC rfl rfl) rfl (by kernel_rfl) rfl ?_
          refine WA.one (i := 11) (by kernel_rfl) ?_
          refine WAi.efNL rfl (EF.storeC rfl rfl rfl) rfl rfl ?_
          rintro ⟨⟩ -
          refine WB.done (by kernel_rfl) ?_
          refine JE.seqN ?_
          refine J.seq ?_
          refine J.reg ?_
          refine WL.rd (RD.fieldC rfl rfl) rfl rfl ?_
          refine WL.rd (RD.loadC rfl rfl) rfl rfl ?_
          refine WL.rd (RD.move rfl) rfl rfl ?_
          refine WL.efS (EF.build1 rfl) rfl rfl ?_
          intro v77 _
          refine WL.efS (EF.append rfl rfl (by omega) rfl rfl rfl) rfl rfl ?_
          intro v78 _
          refine WL.rd (RD.fieldC rfl rfl) rfl rfl ?_
          refine WL.efN (EF.storeC rfl rfl rfl) rfl ?_
          rintro ⟨⟩ -
          refine WL.nil ?_
          refine JE.seqN ?_
          refine J.seq ?_
          refine J.reg ?_
          refine WL.rd (RD.loadA rfl rfl) rfl rfl ?_
          refine WL.efN (EF.storeA rfl rfl rfl rfl) rfl ?_
          rintro ⟨⟩ -
          refine WL.nil ?_
          refine JE.seqN ?_
          refine J.reg ?_
          refine WL.rd (RD.move rfl) rfl rfl ?_
          refine WL.rd (RD.add rfl rfl (by omega) (by omega)) rfl rfl ?_
          refine WL.rd (RD.assign rfl) rfl rfl ?_
          refine WL.nil ?_
          refine JE.blockN ?_
          refine JE.seqN ?_
          refine J.reg ?_
          refine WL.rd (RD.move rfl) rfl rfl ?_
          refine WL.rd (RD.add rfl rfl (by omega) (by omega)) rfl rfl ?_
          refine WL.rd (RD.assign rfl) rfl rfl ?_
          refine WL.nil ?_
          refine JE.cutN ⟨_, ?_, e + 1, f38, v72, v78, rfl, ?_, rfl, rfl⟩ ?_ ?_
          · omega
          · omega
          · exact (Sub.consE rfl (by first | (rw [play_no hs6]; done) | (rw [play_yes hs6, hpc]; unfold putP; simp only [List.length_append, List.length_singleton, hgp]; rfl)) (Sub.consE rfl (by first | rfl | (congr 1; omega) | (simp; done)) (Sub.consE rfl (by first | rfl | (congr 1; omega) | (simp; done)) (Sub.consE rfl (by first | rfl | (congr 1; omega) | (simp; done)) .nil))))
          · exact (SubM.cells rfl (by first | rfl | (simp; done)) (SubM.row rfl rfl (by rw [play_yes hs6, hpc]; unfold putP; rw [ht]; first | done | rfl) (SubM.row rfl rfl (by rw [play_yes hs6, hpc]; unfold putP; rw [ht]; first | done | rfl) (SubM.row rfl rfl (by rw [play_yes hs6, hpc]; unfold putP; rw [ht]; first | done | rfl) (SubM.cells rfl (by first | rfl | (simp; done)) (SubM.ro rfl (by first | rfl | (simp [iv, bv, yv, tv, sv]; done)) .nil))))))
      ·
        refine WAi.efS rfl (by exact EF.allocA) rfl rfl (fun _ => SubI.sub) ?_
        intro b7 _
        refine WA.one (i := 14) (by kernel_rfl) ?_
        refine WAi.efS rfl (EF.callN (.cons rfl (.cons rfl (.cons rfl (.cons rfl (.cons rfl .nil))))) (fun w hS => l4Gather_i _ 2 _ xs _ _ _ _ _ _ _ _ _ _ (by omega) (by omega) (by omega) hok (by exact RdI.rd hS) (by exact RdI.rd hS) (by exact RdI.rd hS) (by exact RdI.rd hS) (by omega) (by omega) (by omega) (by omega))) rfl rfl (fun _ => SubI.sub) ?_
        rintro ⟨f38, t38, p38⟩ -
        refine WA.takeP 15 rfl (RDP.of fun _ => RD.move rfl) rfl (by kernel_rfl) rfl ?_
        refine WA.takeP 16 rfl (RDP.of fun _ => RD.extract rfl rfl) rfl (by kernel_rfl) rfl ?_
        refine WA.takeP 17 rfl (RDP.of fun _ => RD.extract rfl rfl) rfl (by kernel_rfl) rfl ?_
        refine WA.one (i := 19) (by kernel_rfl) ?_
        refine WAi.efNL rfl (EF.storeA rfl rfl rfl rfl) rfl rfl ?_
        rintro ⟨⟩ -
        refine WB.takeP 20 rfl (RDP.of fun _ => RD.assign rfl) rfl (by kernel_rfl) rfl ?_
        refine WB.done (by kernel_rfl) ?_
        refine JE.seqN ?_
        refine J.seq ?_
        refine J.seq ?_
        refine J.reg ?_
        refine WL.rd (RD.move rfl) rfl rfl ?_
        refine WL.rd (RD.not rfl) rfl rfl ?_
        refine WL.nil ?_
        refine JE.seqN ?_
        refine J.cond rfl (fun hc42 => ?_) (fun hc42 => ?_)
        ·
          have hG2 : (gathP n.toNat xs (xs.getD e default).1 (xs.getD e default).2 4 8 (⟨(playP n.toNat xs 2 3 e).f, (playP n.toNat xs 2 3 e).t, (playP n.toNat xs 2 3 e).pl⟩ : PS)).2 = false := by simpa using hc42
          have hs6 : (placeP n.toNat xs 3 (playP n.toNat xs 2 3 e) e).isSome = false := by rw [place_isSome]; exact hG2
          refine J.exit ?_
          refine JE.seqX ?_
          refine JE.blockHit ?_
          refine JE.seqN ?_
          refine J.reg ?_
          refine WL.rd (RD.move rfl) rfl rfl ?_
          refine WL.rd (RD.add rfl rfl (by omega) (by omega)) rfl rfl ?_
          refine WL.rd (RD.assign rfl) rfl rfl ?_
          refine WL.nil ?_
          refine JE.cutN ⟨_, ?_, e + 1, uf, ut, up, rfl, ?_, rfl, rfl⟩ ?_ ?_
          · omega
          · omega
          · exact (Sub.consE rfl (by first | (rw [play_no hs6]; done) | (rw [play_yes hs6, hpc]; unfold putP; simp only [List.length_append, List.length_singleton, hgp]; rfl)) (Sub.consE rfl (by first | rfl | (congr 1; omega) | (simp; done)) (Sub.consE rfl (by first | rfl | (congr 1; omega) | (simp; done)) (Sub.consE rfl (by first | rfl | (congr 1; omega) | (simp; done)) .nil))))
          · exact (SubM.cells rfl (by first | rfl | (simp; done)) (SubM.row rfl rfl (by rw [play_no hs6]) (SubM.row rfl rfl (by rw [play_no hs6]) (SubM.row rfl rfl (by rw [play_no hs6]) (SubM.cells rfl (by first | rfl | (simp; done)) (SubM.ro rfl (by first | rfl | (simp [iv, bv, yv, tv, sv]; done)) .nil))))))
        ·
          have hG2 : (gathP n.toNat xs (xs.getD e default).1 (xs.getD e default).2 4 8 (⟨(playP n.toNat xs 2 3 e).f, (playP n.toNat xs 2 3 e).t, (playP n.toNat xs 2 3 e).pl⟩ : PS)).2 = true := by simpa using hc42
          have hs6 : (placeP n.toNat xs 3 (playP n.toNat xs 2 3 e) e).isSome = true := by rw [place_isSome]; exact hG2
          have hsum := hgs.2.2.1 hG2
          simp only [gI] at hsum
          have ht : tailP (gathP n.toNat xs (xs.getD e default).1 (xs.getD e default).2 4 8 (⟨(playP n.toNat xs 2 3 e).f, (playP n.toNat xs 2 3 e).t, (playP n.toNat xs 2 3 e).pl⟩ : PS)).1 (exs xs e) = (xs.getD e default).1 := by unfold tailP exs gI; rw [if_neg (by omega)]
          have hpc : plcP n.toNat xs 3 (playP n.toNat xs 2 3 e) e = putP (gathP n.toNat xs (xs.getD e default).1 (xs.getD e default).2 4 8 (⟨(playP n.toNat xs 2 3 e).f, (playP n.toNat xs 2 3 e).t, (playP n.toNat xs 2 3 e).pl⟩ : PS)).1 (exs xs e) e := plc_yes hG2
          refine J.skip ?_
          refine JE.seqN ?_
          refine J.seq ?_
          refine J.anyAll [20] ?_
          refine WA.takeP 0 rfl (RDP.of fun _ => RD.fieldC rfl rfl) rfl (by kernel_rfl) rfl ?_
          refine WA.take 1 rfl (RD.loadC rfl rfl) rfl (by kernel_rfl) rfl ?_
          refine WA.takeP 2 rfl (RDP.of fun _ => RD.fieldC rfl rfl) rfl (by kernel_rfl) rfl ?_
          refine WA.take 3 rfl (RD.loadC rfl rfl) rfl (by kernel_rfl) rfl ?_
          refine WA.takeP 4 rfl (RDP.of fun _ => RD.move rfl) rfl (by kernel_rfl) rfl ?_
          refine WA.takeP 5 rfl (RDP.idx rfl rfl (by omega) rfl) rfl (by kernel_rfl) rfl ?_
          refine WA.takeP 6 rfl (RDP.of fun _ => RD.fieldE rfl rfl) rfl (by kernel_rfl) rfl ?_
          refine WA.take 7 rfl (RD.loadE rfl (by omega) rfl) rfl (by kernel_rfl) rfl ?_
          refine WA.takeP 8 rfl (RDP.of fun _ => RD.fieldC rfl rfl) rfl (by kernel_rfl) rfl ?_
          refine WA.take 9 rfl (RD.loadC rfl rfl) rfl (by kernel_rfl) rfl ?_
          refine WA.takeP 10 rfl (RDP.of fun _ => RD.fieldC rfl rfl) rfl (by kernel_rfl) rfl ?_
          refine WA.take 11 rfl (RD.loadC rfl rfl) rfl (by kernel_rfl) rfl ?_
          refine WA.takeP 12 rfl (RDP.of fun _ => RD.move rfl) rfl (by kernel_rfl) rfl ?_
          refine WA.takeP 13 rfl (RDP.idx rfl rfl (by omega) rfl) rfl (by kernel_rfl) rfl ?_
          refine WA.takeP 14 rfl (RDP.of fun _ => RD.fieldE rfl rfl) rfl (by kernel_rfl) rfl ?_
          refine WA.take 15 rfl (RD.loadE rfl (by omega) rfl) rfl (by kernel_rfl) rfl ?_
          refine WA.takeP 16 rfl (RDP.idx (j := (xs.getD e default).1.toNat) (hj := ⟨by omega⟩) rfl rfl (by omega) rfl) rfl (by kernel_rfl) rfl ?_
          refine WA.take 17 rfl (RD.loadE rfl (by omega) rfl) rfl (by kernel_rfl) rfl ?_
          refine WA.takeP 18 rfl (RDP.of fun _ => RD.sub rfl rfl (by omega) (by omega)) rfl (by kernel_rfl) rfl ?_
          refine WA.takeP 19 rfl (RDP.idx (j := (xs.getD e default).1.toNat) (hj := ⟨by omega⟩) rfl rfl (by omega) rfl) rfl (by kernel_rfl) rfl ?_
          refine WA.one (i := 20) (by kernel_rfl) ?_
          refine WAi.efNL rfl (EF.storeI rfl rfl (by omega) rfl rfl) rfl rfl ?_
          rintro ⟨⟩ -
          refine WB.done (by kernel_rfl) ?_
          refine JE.seqN ?_
          refine J.seq ?_
          refine J.anyDrop [11] (t38) ?_
          refine WA.takeP 0 rfl (RDP.of fun _ => RD.fieldC rfl rfl) rfl (by kernel_rfl) rfl ?_
          refine WA.take 1 rfl (RD.loadC rfl rfl) rfl (by kernel_rfl) rfl ?_
          refine WA.takeP 2 rfl (RDP.of fun _ => RD.fieldC rfl rfl) rfl (by kernel_rfl) rfl ?_
          refine WA.take 3 rfl (RD.loadC rfl rfl) rfl (by kernel_rfl) rfl ?_
          refine WA.takeP 4 rfl (RDP.of fun _ => RD.move rfl) rfl (by kernel_rfl) rfl ?_
          refine WA.takeP 5 rfl (RDP.idx rfl rfl (by omega) rfl) rfl (by kernel_rfl) rfl ?_
          refine WA.takeP 6 rfl (RDP.of fun _ => RD.fieldE rfl rfl) rfl (by kernel_rfl) rfl ?_
          refine WA.take 7 rfl (RD.loadE rfl (by omega) rfl) rfl (by kernel_rfl) rfl ?_
          refine WA.one (i := 8) (by kernel_rfl) ?_
          refine WAi.efS rfl (EF.build1 rfl) rfl rfl (fun _ => SubI.sub) ?_
          intro v71 _
          refine WA.one (i := 9) (by kernel_rfl) ?_
          refine WAi.efS rfl (EF.append rfl rfl (by omega) rfl rfl rfl) rfl rfl (fun _ => SubI.sub) ?_
          intro v72 _
          refine WA.takeP 10 rfl (RDP.of fun _ => RD.fieldC rfl rfl) rfl (by kernel_rfl) rfl ?_
          refine WA.one (i := 11) (by kernel_rfl) ?_
          refine WAi.efNL rfl (EF.storeC rfl rfl rfl) rfl rfl ?_
          rintro ⟨⟩ -
          refine WB.done (by kernel_rfl) ?_
          refine JE.seqN ?_
          refine J.seq ?_
          refine J.reg ?_
          refine WL.rd (RD.fieldC rfl rfl) rfl rfl ?_
          refine WL.rd (RD.loadC rfl rfl) rfl rfl ?_
          refine WL.rd (RD.move rfl) rfl rfl ?_
          refine WL.efS (EF.build1 rfl) rfl rfl ?_
          intro v77 _
          refine WL.efS (EF.append rfl rfl (by omega) rfl rfl rfl) rfl rfl ?_
          intro v78 _
          refine WL.rd (RD.fieldC rfl rfl) rfl rfl ?_
          refine WL.efN (EF.storeC rfl rfl rfl) rfl ?_
          rintro ⟨⟩ -
          refine WL.nil ?_
          refine JE.seqN ?_
          refine J.seq ?_
          refine J.reg ?_
          refine WL.rd (RD.loadA rfl rfl) rfl rfl ?_
          refine WL.efN (EF.storeA rfl rfl rfl rfl) rfl ?_
          rintro ⟨⟩ -
          refine WL.nil ?_
          refine JE.seqN ?_
          refine J.reg ?_
          refine WL.rd (RD.move rfl) rfl rfl ?_
          refine WL.rd (RD.add rfl rfl (by omega) (by omega)) rfl rfl ?_
          refine WL.rd (RD.assign rfl) rfl rfl ?_
          refine WL.nil ?_
          refine JE.blockN ?_
          refine JE.seqN ?_
          refine J.reg ?_
          refine WL.rd (RD.move rfl) rfl rfl ?_
          refine WL.rd (RD.add rfl rfl (by omega) (by omega)) rfl rfl ?_
          refine WL.rd (RD.assign rfl) rfl rfl ?_
          refine WL.nil ?_
          refine JE.cutN ⟨_, ?_, e + 1, f38, v72, v78, rfl, ?_, rfl, rfl⟩ ?_ ?_
          · omega
          · omega
          · exact (Sub.consE rfl (by first | (rw [play_no hs6]; done) | (rw [play_yes hs6, hpc]; unfold putP; simp only [List.length_append, List.length_singleton, hgp]; rfl)) (Sub.consE rfl (by first | rfl | (congr 1; omega) | (simp; done)) (Sub.consE rfl (by first | rfl | (congr 1; omega) | (simp; done)) (Sub.consE rfl (by first | rfl | (congr 1; omega) | (simp; done)) .nil))))
          · exact (SubM.cells rfl (by first | rfl | (simp; done)) (SubM.row rfl rfl (by rw [play_yes hs6, hpc]; unfold putP; rw [ht]; first | done | rfl) (SubM.row rfl rfl (by rw [play_yes hs6, hpc]; unfold putP; rw [ht]; first | done | rfl) (SubM.row rfl rfl (by rw [play_yes hs6, hpc]; unfold putP; rw [ht]; first | done | rfl) (SubM.cells rfl (by first | rfl | (simp; done)) (SubM.ro rfl (by first | rfl | (simp [iv, bv, yv, tv, sv]; done)) .nil))))))
    ·
      refine J.exit ?_
      refine JE.seqX ?_
      refine JE.cutX ?_
      refine JE.blockHit ?_
      refine JE.seqN ?_
      refine J.seq ?_
      refine J.reg ?_
      refine WL.rd (RD.move rfl) rfl rfl ?_
      refine WL.rd (RD.assign rfl) rfl rfl ?_
      refine WL.nil ?_
      refine JE.seqN ?_
      refine J.ret ?_
      refine JE.ret rfl (.tmp rfl .nil) (fun w hS => ?_)
      exact CS.fin hS (by rw [show e = xs.length by omega]; rfl)
theorem sIsImplied_c (n : Int) (v : Value) (xs : List (Int × Int)) (a b : Int) (w : World) (hr : Rd w v 2 (xs.map bv)) (hxl : xs.length ≤ 1048576) :
    CS Try.prog 14 [.agg #[.int .i64 n, v], .int .i64 a, .int .i64 b] w (.bool (decide (impI n xs a b))) := by
  refine calls_of_J (mu := (fun _ => False)) (m := [.ro v 2 (xs.map bv)]) (e := [(0, .agg #[.int .i64 n, v]), (1, .int .i64 a), (2, .int .i64 b)]) Try.func14 rfl rfl (.cons rfl (.cons rfl (.cons rfl .nil))) (((St.init _ _).ro0 hr (by decide))) ?_
  refine J.seq ?_
  refine J.reg ?_
  refine WL.efS (EF.boxA rfl) rfl rfl ?_
  intro b3 _
  refine WL.rd (RD.assign rfl) rfl rfl ?_
  refine WL.nil ?_
  refine JE.seqN ?_
  refine J.seq ?_
  refine J.seq ?_
  refine J.reg ?_
  refine WL.rd (RD.loadA rfl rfl) rfl rfl ?_
  refine WL.efS (EF.callS (.cons rfl .nil) (fun w hS => sIsGraph_c _ _ _ _ (by exact RdI.rd hS))) rfl rfl ?_
  rintro ⟨⟩ -
  refine WL.rd (RD.notP rfl) rfl rfl ?_
  refine WL.rd (RD.move rfl) rfl rfl ?_
  refine WL.caseP 11 rfl (fun hg11 => ?_) (fun hg11 => ?_)
  ·
    refine WL.noS rfl rfl ?_
    refine WL.noS rfl rfl ?_
    refine WL.rd (RD.pickT rfl rfl) rfl rfl ?_
    refine WL.rd (RD.move rfl) rfl rfl ?_
    refine WL.noS rfl rfl ?_
    refine WL.noS rfl rfl ?_
    refine WL.rd (RD.pickT rfl rfl) rfl rfl ?_
    refine WL.rd (RD.move rfl) rfl rfl ?_
    refine WL.noS rfl rfl ?_
    refine WL.noS rfl rfl ?_
    refine WL.noS rfl rfl ?_
    refine WL.noS rfl rfl ?_
    refine WL.rd (RD.pickT rfl rfl) rfl rfl ?_
    refine WL.rd (RD.move rfl) rfl rfl ?_
    refine WL.noS rfl rfl ?_
    refine WL.noS rfl rfl ?_
    refine WL.noS rfl rfl ?_
    refine WL.noS rfl rfl ?_
    refine WL.rd (RD.pickT rfl rfl) rfl rfl ?_
    refine WL.nil ?_
    refine JE.seqN ?_
    refine J.condT rfl ?_
    refine J.seq ?_
    refine J.reg ?_
    refine WL.rd (RD.assign rfl) rfl rfl ?_
    refine WL.nil ?_
    refine JE.seqN ?_
    refine J.ret ?_
    refine JE.ret rfl (.tmp rfl .nil) (fun w hS => ?_)
    exact CS.fin hS (mk_false (fun h => by obtain ⟨h1, h2, h3, _⟩ := h; first | exact absurd h1 (by assumption) | omega))
  ·
    refine WL.rd (RD.move rfl) rfl rfl ?_
    refine WL.rd (RD.lss rfl rfl) rfl rfl ?_
    refine WL.rd (RD.pickF rfl rfl) rfl rfl ?_
    refine WL.rd (RD.move rfl) rfl rfl ?_
    refine WL.caseP 15 rfl (fun hg15 => ?_) (fun hg15 => ?_)
    ·
      refine WL.noS rfl rfl ?_
      refine WL.noS rfl rfl ?_
      refine WL.rd (RD.pickT rfl rfl) rfl rfl ?_
      refine WL.rd (RD.move rfl) rfl rfl ?_
      refine WL.noS rfl rfl ?_
      refine WL.noS rfl rfl ?_
      refine WL.noS rfl rfl ?_
      refine WL.noS rfl rfl ?_
      refine WL.rd (RD.pickT rfl rfl) rfl rfl ?_
      refine WL.rd (RD.move rfl) rfl rfl ?_
      refine WL.noS rfl rfl ?_
      refine WL.noS rfl rfl ?_
      refine WL.noS rfl rfl ?_
      refine WL.noS rfl rfl ?_
      refine WL.rd (RD.pickT rfl rfl) rfl rfl ?_
      refine WL.nil ?_
      refine JE.seqN ?_
      refine J.condT rfl ?_
      refine J.seq ?_
      refine J.reg ?_
      refine WL.rd (RD.assign rfl) rfl rfl ?_
      refine WL.nil ?_
      refine JE.seqN ?_
      refine J.ret ?_
      refine JE.ret rfl (.tmp rfl .nil) (fun w hS => ?_)
      exact CS.fin hS (mk_false (fun h => by obtain ⟨h1, h2, h3, _⟩ := h; first | exact absurd h1 (by assumption) | omega))
    ·
      refine WL.rd (RD.move rfl) rfl rfl ?_
      refine WL.rd (RD.lss rfl rfl) rfl rfl ?_
      refine WL.rd (RD.pickF rfl rfl) rfl rfl ?_
      refine WL.rd (RD.move rfl) rfl rfl ?_
      refine WL.caseP 19 rfl (fun hg19 => ?_) (fun hg19 => ?_)
      ·
        refine WL.noS rfl rfl ?_
        refine WL.noS rfl rfl ?_
        refine WL.noS rfl rfl ?_
        refine WL.noS rfl rfl ?_
        refine WL.rd (RD.pickT rfl rfl) rfl rfl ?_
        refine WL.rd (RD.move rfl) rfl rfl ?_
        refine WL.noS rfl rfl ?_
        refine WL.noS rfl rfl ?_
        refine WL.noS rfl rfl ?_
        refine WL.noS rfl rfl ?_
        refine WL.rd (RD.pickT rfl rfl) rfl rfl ?_
        refine WL.nil ?_
        refine JE.seqN ?_
        refine J.condT rfl ?_
        refine J.seq ?_
        refine J.reg ?_
        refine WL.rd (RD.assign rfl) rfl rfl ?_
        refine WL.nil ?_
        refine JE.seqN ?_
        refine J.ret ?_
        refine JE.ret rfl (.tmp rfl .nil) (fun w hS => ?_)
        exact CS.fin hS (mk_false (fun h => by obtain ⟨h1, h2, h3, _⟩ := h; first | exact absurd h1 (by assumption) | omega))
      ·
        refine WL.rd (RD.move rfl) rfl rfl ?_
        refine WL.rd (RD.fieldC rfl rfl) rfl rfl ?_
        refine WL.rd (RD.loadC rfl rfl) rfl rfl ?_
        refine WL.rd (RD.geq rfl rfl) rfl rfl ?_
        refine WL.rd (RD.pickF rfl rfl) rfl rfl ?_
        refine WL.rd (RD.move rfl) rfl rfl ?_
        refine WL.caseP 25 rfl (fun hg25 => ?_) (fun hg25 => ?_)
        ·
          refine WL.noS rfl rfl ?_
          refine WL.noS rfl rfl ?_
          refine WL.noS rfl rfl ?_
          refine WL.noS rfl rfl ?_
          refine WL.rd (RD.pickT rfl rfl) rfl rfl ?_
          refine WL.nil ?_
          refine JE.seqN ?_
          refine J.condT rfl ?_
          refine J.seq ?_
          refine J.reg ?_
          refine WL.rd (RD.assign rfl) rfl rfl ?_
          refine WL.nil ?_
          refine JE.seqN ?_
          refine J.ret ?_
          refine JE.ret rfl (.tmp rfl .nil) (fun w hS => ?_)
          exact CS.fin hS (mk_false (fun h => by obtain ⟨h1, h2, h3, _⟩ := h; first | exact absurd h1 (by assumption) | omega))
        ·
          refine WL.rd (RD.move rfl) rfl rfl ?_
          refine WL.rd (RD.fieldC rfl rfl) rfl rfl ?_
          refine WL.rd (RD.loadC rfl rfl) rfl rfl ?_
          refine WL.rd (RD.geq rfl rfl) rfl rfl ?_
          refine WL.rd (RD.pickF rfl rfl) rfl rfl ?_
          refine WL.nil ?_
          refine JE.seqN ?_
          refine J.condP rfl (fun hc30 => ?_) (fun hc30 => ?_)
          ·
            refine J.seq ?_
            refine J.reg ?_
            refine WL.rd (RD.assign rfl) rfl rfl ?_
            refine WL.nil ?_
            refine JE.seqN ?_
            refine J.ret ?_
            refine JE.ret rfl (.tmp rfl .nil) (fun w hS => ?_)
            exact CS.fin hS (mk_false (fun h => by obtain ⟨h1, h2, h3, _⟩ := h; first | exact absurd h1 (by assumption) | omega))
          ·
            refine J.skip ?_
            refine JE.seqN ?_
            refine J.seq ?_
            have hg : isG n xs := Decidable.not_not.1 hg11
            have h12 := hg.1
            have h13 := hg.2.1
            have h14 := hg.2.2.1
            have hGL := gGood hg
            refine J.reg ?_
            refine WL.rd (RD.loadA rfl rfl) rfl rfl ?_
            refine WL.rd (RD.move rfl) rfl rfl ?_
            refine WL.rd (RD.move rfl) rfl rfl ?_
            refine WL.rd (RD.min rfl rfl) rfl rfl ?_
            refine WL.rd (RD.move rfl) rfl rfl ?_
            refine WL.rd (RD.move rfl) rfl rfl ?_
            refine WL.rd (RD.max rfl rfl) rfl rfl ?_
            refine WL.rd (RD.build (n := 2) (.cons rfl (.cons rfl .nil)) rfl) rfl rfl ?_
            refine WL.efS (EF.callN (.cons rfl (.cons rfl .nil)) (fun w hS => l2Put_c n _ xs (min a b, max a b) _ (by exact RdI.rd hS) (by omega))) rfl rfl ?_
            rintro u39 -
            refine WL.efS (EF.allocA) rfl rfl ?_
            intro b7 _
            refine WL.efN (EF.storeA rfl rfl rfl rfl) rfl ?_
            rintro ⟨⟩ -
            refine WL.nil ?_
            refine JE.seqN ?_
            refine J.seq ?_
            refine J.anyAll [] ?_
            refine WA.takeP 0 rfl (RDP.of fun _ => RD.move rfl) rfl (by kernel_rfl) rfl ?_
            refine WA.takeP 1 rfl (RDP.of fun _ => RD.move rfl) rfl (by kernel_rfl) rfl ?_
            refine WA.takeP 2 rfl (RDP.of fun _ => RD.eql rfl rfl) rfl (by kernel_rfl) rfl ?_
            refine WA.takeP 3 rfl (RDP.of fun _ => RD.move rfl) rfl (by kernel_rfl) rfl ?_
            refine WA.caseP 43 rfl (fun hg43 => ?_) (fun hg43 => ?_)
            ·
              refine WA.no 4 rfl rfl (by kernel_rfl) rfl ?_
              refine WA.no 5 rfl rfl (by kernel_rfl) rfl ?_
              refine WA.no 6 rfl rfl (by kernel_rfl) rfl ?_
              refine WA.no 7 rfl rfl (by kernel_rfl) rfl ?_
              refine WA.no 8 rfl rfl (by kernel_rfl) rfl ?_
              refine WA.takeP 9 rfl (RDP.of fun _ => RD.pickT rfl rfl) rfl (by kernel_rfl) rfl ?_
              refine WA.takeP 10 rfl (RDP.of fun _ => RD.assign rfl) rfl (by kernel_rfl) rfl ?_
              refine WA.done (by kernel_rfl) ?_
              refine JE.seqN ?_
              refine J.ret ?_
              refine JE.ret rfl (.tmp rfl .nil) (fun w hS => ?_)
              exact CS.fin hS (mk_true ⟨hg, by omega, by omega, .inl (by assumption)⟩)
            ·
              have hG2 : GoodL n.toNat (xs ++ [(min a b, max a b)]) := goodL_app hGL (by simp only; omega)
              have hG3 : GoodL n.toNat (putL xs (min a b, max a b)) := fun y hy => hG2 y ((putL_perm _ _).subset hy)
              have hps := put_same hG2
              refine WA.take 4 rfl (RD.loadA rfl rfl) rfl (by kernel_rfl) rfl ?_
              refine WA.take 6 rfl (RD.loadA rfl rfl) rfl (by kernel_rfl) rfl ?_
              refine WA.one (i := 5) (by kernel_rfl) ?_
              refine WAi.efS rfl (EF.callS (.cons rfl .nil) (fun w hS => l6Rank_c n _ (putL xs (min a b, max a b)) _ (by exact RdI.rd hS) (by omega) hG3 (by rw [putL_len]; omega))) rfl rfl (fun _ => SubI.sub) ?_
              rintro ⟨⟩ -
              refine WA.one (i := 7) (by kernel_rfl) ?_
              refine WAi.efS rfl (EF.callS (.cons rfl .nil) (fun w hS => l6Rank_c n _ xs _ (by exact RdI.rd hS) (by omega) hGL (by omega))) rfl rfl (fun _ => SubI.sub) ?_
              rintro ⟨⟩ -
              refine WA.takeP 8 rfl (RDP.of fun _ => RD.eql rfl rfl) rfl (by kernel_rfl) rfl ?_
              refine WA.takeP 9 rfl (RDP.of fun _ => RD.pickF rfl rfl) rfl (by kernel_rfl) rfl ?_
              refine WA.takeP 10 rfl (RDP.of fun _ => RD.assign rfl) rfl (by kernel_rfl) rfl ?_
              refine WA.done (by kernel_rfl) ?_
              refine JE.seqN ?_
              refine J.ret ?_
              refine JE.ret rfl (.tmp rfl .nil) (fun w hS => ?_)
              exact CS.fin hS (mk_dec ⟨fun h => ⟨hg, by omega, by omega, .inr (hps.1 (by omega))⟩, fun h => by have h9 := hps.2 (h.2.2.2.resolve_left (by assumption)); omega⟩)
theorem sComponentOfBar_c (n : Int) (v : Value) (xs : List (Int × Int)) (i : Int) (w : World) (hr : Rd w v 2 (xs.map bv)) (hxl : xs.length ≤ 1048576) :
    CN Try.prog 32 [.agg #[.int .i64 n, v], .int .i64 i] w Value (fun _ => True) (fun u => u) (fun u => [.row u 3 1 ((compI n xs i).map iv)]) := by
  have hl_xs : xs.length ≤ 9223372036854775807 := (by obtain ⟨_, _, _, hh, _⟩ := hr.shape; simpa using hh)
  refine calls_of_J (mu := (fun _ => False)) (m := [.ro v 2 (xs.map bv)]) (e := [(0, .agg #[.int .i64 n, v]), (1, .int .i64 i)]) Try.func32 rfl rfl (.cons rfl (.cons rfl .nil)) (((St.init _ _).ro0 hr (by decide))) ?_
  refine J.seq ?_
  refine J.reg ?_
  refine WL.efS (EF.boxA rfl) rfl rfl ?_
  intro b2 _
  refine WL.rd (RD.assign rfl) rfl rfl ?_
  refine WL.nil ?_
  refine JE.seqN ?_
  refine J.seq ?_
  refine J.reg ?_
  refine WL.efS (EF.build0) rfl rfl ?_
  intro v9 _
  refine WL.rd (RD.assign rfl) rfl rfl ?_
  refine WL.nil ?_
  refine JE.seqN ?_
  refine J.seq ?_
  refine J.seq ?_
  refine J.reg ?_
  refine WL.rd (RD.loadA rfl rfl) rfl rfl ?_
  refine WL.efS (EF.callS (.cons rfl .nil) (fun w hS => sIsGraph_c _ _ _ _ (by exact RdI.rd hS))) rfl rfl ?_
  rintro ⟨⟩ -
  refine WL.rd (RD.notP rfl) rfl rfl ?_
  refine WL.rd (RD.move rfl) rfl rfl ?_
  refine WL.caseP 13 rfl (fun hg13 => ?_) (fun hg13 => ?_)
  ·
    refine WL.noS rfl rfl ?_
    refine WL.noS rfl rfl ?_
    refine WL.rd (RD.pickT rfl rfl) rfl rfl ?_
    refine WL.rd (RD.move rfl) rfl rfl ?_
    refine WL.noS rfl rfl ?_
    refine WL.noS rfl rfl ?_
    refine WL.noS rfl rfl ?_
    refine WL.noS rfl rfl ?_
    refine WL.noS rfl rfl ?_
    refine WL.rd (RD.pickT rfl rfl) rfl rfl ?_
    refine WL.nil ?_
    refine JE.seqN ?_
    refine J.condT rfl ?_
    refine J.seq ?_
    refine J.reg ?_
    refine WL.rd (RD.move rfl) rfl rfl ?_
    refine WL.rd (RD.assign rfl) rfl rfl ?_
    refine WL.nil ?_
    refine JE.seqN ?_
    refine J.ret ?_
    refine JE.ret rfl (.tmp rfl .nil) (fun w hS => ?_)
    have hno : ¬ (isG n xs ∧ 0 ≤ i ∧ i < xs.length) := fun hh => by first | exact absurd hh.1 (by assumption) | (have h1 := hh.2; omega)
    exact CN.fin hS v9 rfl trivial (SubM.row rfl rfl (by unfold compI; rw [if_neg hno]; rfl) .nil) (by simp [En.rdb])
  ·
    refine WL.rd (RD.move rfl) rfl rfl ?_
    refine WL.rd (RD.lss rfl rfl) rfl rfl ?_
    refine WL.rd (RD.pickF rfl rfl) rfl rfl ?_
    refine WL.rd (RD.move rfl) rfl rfl ?_
    refine WL.caseP 17 rfl (fun hg17 => ?_) (fun hg17 => ?_)
    ·
      refine WL.noS rfl rfl ?_
      refine WL.noS rfl rfl ?_
      refine WL.noS rfl rfl ?_
      refine WL.noS rfl rfl ?_
      refine WL.noS rfl rfl ?_
      refine WL.rd (RD.pickT rfl rfl) rfl rfl ?_
      refine WL.nil ?_
      refine JE.seqN ?_
      refine J.condT rfl ?_
      refine J.seq ?_
      refine J.reg ?_
      refine WL.rd (RD.move rfl) rfl rfl ?_
      refine WL.rd (RD.assign rfl) rfl rfl ?_
      refine WL.nil ?_
      refine JE.seqN ?_
      refine J.ret ?_
      refine JE.ret rfl (.tmp rfl .nil) (fun w hS => ?_)
      have hno : ¬ (isG n xs ∧ 0 ≤ i ∧ i < xs.length) := fun hh => by first | exact absurd hh.1 (by assumption) | (have h1 := hh.2; omega)
      exact CN.fin hS v9 rfl trivial (SubM.row rfl rfl (by unfold compI; rw [if_neg hno]; rfl) .nil) (by simp [En.rdb])
    ·
      refine WL.rd (RD.move rfl) rfl rfl ?_
      refine WL.rd (RD.fieldC rfl rfl) rfl rfl ?_
      refine WL.rd (RD.loadC rfl rfl) rfl rfl ?_
      refine WL.rd (RD.lenR rfl) rfl rfl ?_
      refine WL.rd (RD.geq rfl rfl) rfl rfl ?_
      refine WL.rd (RD.pickF rfl rfl) rfl rfl ?_
      refine WL.nil ?_
      refine JE.seqN ?_
      refine J.condP rfl (fun hc23 => ?_) (fun hc23 => ?_)
      ·
        refine J.seq ?_
        refine J.reg ?_
        refine WL.rd (RD.move rfl) rfl rfl ?_
        refine WL.rd (RD.assign rfl) rfl rfl ?_
        refine WL.nil ?_
        refine JE.seqN ?_
        refine J.ret ?_
        refine JE.ret rfl (.tmp rfl .nil) (fun w hS => ?_)
        have hno : ¬ (isG n xs ∧ 0 ≤ i ∧ i < xs.length) := fun hh => by first | exact absurd hh.1 (by assumption) | (have h1 := hh.2; omega)
        exact CN.fin hS v9 rfl trivial (SubM.row rfl rfl (by unfold compI; rw [if_neg hno]; rfl) .nil) (by simp [En.rdb])
      ·
        refine J.skip ?_
        refine JE.seqN ?_
        refine J.seq ?_
        have hg : isG n xs := Decidable.not_not.1 hg13
        have h12 := hg.1
        have h13 := hg.2.1
        refine J.reg ?_
        refine WL.rd (RD.fieldC rfl rfl) rfl rfl ?_
        refine WL.rd (RD.loadC rfl rfl) rfl rfl ?_
        refine WL.rd (RD.move rfl) rfl rfl ?_
        refine WL.rd (RD.idx (j := i.toNat) (hj := ⟨by omega⟩) rfl rfl (by omega) rfl) rfl rfl ?_
        refine WL.rd (RD.fieldE rfl rfl) rfl rfl ?_
        refine WL.rd (RD.loadE rfl (by omega) rfl) rfl rfl ?_
        refine WL.rd (RD.assign rfl) rfl rfl ?_
        refine WL.nil ?_
        refine JE.seqN ?_
        refine J.seq ?_
        refine J.reg ?_
        refine WL.rd (RD.fieldC rfl rfl) rfl rfl ?_
        refine WL.rd (RD.loadC rfl rfl) rfl rfl ?_
        refine WL.rd (RD.move rfl) rfl rfl ?_
        refine WL.rd (RD.idx (j := i.toNat) (hj := ⟨by omega⟩) rfl rfl (by omega) rfl) rfl rfl ?_
        refine WL.rd (RD.fieldE rfl rfl) rfl rfl ?_
        refine WL.rd (RD.loadE rfl (by omega) rfl) rfl rfl ?_
        refine WL.rd (RD.assign rfl) rfl rfl ?_
        refine WL.nil ?_
        refine JE.seqN ?_
        refine J.seq ?_
        refine J.seq ?_
        refine J.reg ?_
        refine WL.rd (RD.assign rfl) rfl rfl ?_
        refine WL.nil ?_
        refine JE.seqN ?_
        refine J.block ?_
        refine J.loop (fun gg ee mm => ∃ (j : Nat), ∃ (u : Value), gg = n.toNat - j ∧ (((j : Int) ≤ n)) ∧ ee = [(5, u), (8, .int .i64 (j : Int)), (2, .pointer (some ⟨b2, 0, none⟩)), (6, .int .i64 (xs.getD i.toNat default).1), (7, .int .i64 (xs.getD i.toNat default).2)] ∧ mm = [.row u 3 1 ((pickIx (compF n xs i) j).map iv), .cells b2 29 [.int .i64 n, v], .ro v 2 (xs.map bv)]) _ ⟨0, v9, rfl, ?_, rfl, rfl⟩ ?_ ?_ ?_
        · omega
        · exact (Sub.consE rfl (by first | rfl | (congr 1; omega) | (simp; done)) (Sub.consE rfl (by first | rfl | (congr 1; omega) | (simp; done)) (Sub.consE rfl (by first | rfl | (congr 1; omega) | (simp; done)) (Sub.consE rfl (by first | rfl | (congr 1; omega) | (simp; done)) (Sub.consE rfl (by first | rfl | (congr 1; omega) | (simp; done)) .nil)))))
        · exact (SubM.row rfl rfl (by first | rfl | (simp [iv, bv, yv, tv, sv]; done)) (SubM.cells rfl (by first | rfl | (simp; done)) (SubM.ro rfl (by first | rfl | (simp [iv, bv, yv, tv, sv]; done)) .nil)))
        · rintro g _ _ ⟨j, u, rfl, hI, rfl, rfl⟩
          have hpk := pickIx_le (compF n xs i) j
          refine J.seq ?_
          refine J.seq ?_
          refine J.reg ?_
          refine WL.rd (RD.move rfl) rfl rfl ?_
          refine WL.rd (RD.fieldC rfl rfl) rfl rfl ?_
          refine WL.rd (RD.loadC rfl rfl) rfl rfl ?_
          refine WL.rd (RD.lss rfl rfl) rfl rfl ?_
          refine WL.nil ?_
          refine JE.seqN ?_
          refine J.condP rfl (fun hc40 => ?_) (fun hc40 => ?_)
          ·
            refine J.skip ?_
            refine JE.seqN ?_
            refine J.seq ?_
            refine J.block ?_
            refine J.seq ?_
            refine J.reg ?_
            refine WL.rd (RD.loadA rfl rfl) rfl rfl ?_
            refine WL.rd (RD.move rfl) rfl rfl ?_
            refine WL.rd (RD.move rfl) rfl rfl ?_
            refine WL.efS (EF.callS (.cons rfl (.cons rfl (.cons rfl .nil))) (fun w hS => sIsImplied_c _ _ _ _ _ _ (by exact RdI.rd hS) (by omega))) rfl rfl ?_
            rintro ⟨⟩ -
            refine WL.rd (RD.move rfl) rfl rfl ?_
            refine WL.caseP 47 rfl (fun hg47 => ?_) (fun hg47 => ?_)
            ·
              refine WL.rd (RD.loadA rfl rfl) rfl rfl ?_
              refine WL.rd (RD.move rfl) rfl rfl ?_
              refine WL.rd (RD.move rfl) rfl rfl ?_
              refine WL.efS (EF.callS (.cons rfl (.cons rfl (.cons rfl .nil))) (fun w hS => sIsImplied_c _ _ _ _ _ _ (by exact RdI.rd hS) (by omega))) rfl rfl ?_
              rintro ⟨⟩ -
              refine WL.rd (RD.pickT rfl rfl) rfl rfl ?_
              refine WL.nil ?_
              refine JE.seqN ?_
              refine J.condP rfl (fun hc52 => ?_) (fun hc52 => ?_)
              ·
                refine J.reg ?_
                refine WL.rd (RD.move rfl) rfl rfl ?_
                refine WL.rd (RD.move rfl) rfl rfl ?_
                refine WL.efS (EF.build1 rfl) rfl rfl ?_
                intro v55 _
                refine WL.efS (EF.append rfl rfl (by omega) rfl rfl rfl) rfl rfl ?_
                intro v56 _
                refine WL.rd (RD.assign rfl) rfl rfl ?_
                refine WL.nil ?_
                refine JE.blockN ?_
                refine JE.seqN ?_
                refine J.reg ?_
                refine WL.rd (RD.move rfl) rfl rfl ?_
                refine WL.rd (RD.add rfl rfl (by omega) (by omega)) rfl rfl ?_
                refine WL.rd (RD.assign rfl) rfl rfl ?_
                refine WL.nil ?_
                refine JE.cutN ⟨_, ?_, j + 1, v56, rfl, ?_, rfl, rfl⟩ ?_ ?_
                · omega
                · omega
                · exact (Sub.consE rfl (by first | rfl | (congr 1; omega) | (simp; done)) (Sub.consE rfl (by first | rfl | (congr 1; omega) | (simp; done)) (Sub.consE rfl (by first | rfl | (congr 1; omega) | (simp; done)) (Sub.consE rfl (by first | rfl | (congr 1; omega) | (simp; done)) (Sub.consE rfl (by first | rfl | (congr 1; omega) | (simp; done)) .nil)))))
                · exact (SubM.row rfl rfl (by first | rfl | rw [pickIx_yes _ j (compF_yes (by assumption) (by assumption))]) (SubM.cells rfl (by first | rfl | rw [pickIx_yes _ j (compF_yes (by assumption) (by assumption))]) (SubM.ro rfl (by first | rfl | rw [pickIx_yes _ j (compF_yes (by assumption) (by assumption))]) .nil)))
              ·
                refine J.skip ?_
                refine JE.blockN ?_
                refine JE.seqN ?_
                refine J.reg ?_
                refine WL.rd (RD.move rfl) rfl rfl ?_
                refine WL.rd (RD.add rfl rfl (by omega) (by omega)) rfl rfl ?_
                refine WL.rd (RD.assign rfl) rfl rfl ?_
                refine WL.nil ?_
                refine JE.cutN ⟨_, ?_, j + 1, u, rfl, ?_, rfl, rfl⟩ ?_ ?_
                · omega
                · omega
                · exact (Sub.consE rfl (by first | rfl | (congr 1; omega) | (simp; done)) (Sub.consE rfl (by first | rfl | (congr 1; omega) | (simp; done)) (Sub.consE rfl (by first | rfl | (congr 1; omega) | (simp; done)) (Sub.consE rfl (by first | rfl | (congr 1; omega) | (simp; done)) (Sub.consE rfl (by first | rfl | (congr 1; omega) | (simp; done)) .nil)))))
                · exact (SubM.row rfl rfl (by first | rfl | rw [pickIx_no _ j (compF_no2 (by assumption))]) (SubM.cells rfl (by first | rfl | rw [pickIx_no _ j (compF_no2 (by assumption))]) (SubM.ro rfl (by first | rfl | rw [pickIx_no _ j (compF_no2 (by assumption))]) .nil)))
            ·
              refine WL.noS rfl rfl ?_
              refine WL.noS rfl rfl ?_
              refine WL.noS rfl rfl ?_
              refine WL.noS rfl rfl ?_
              refine WL.rd (RD.pickF rfl rfl) rfl rfl ?_
              refine WL.nil ?_
              refine JE.seqN ?_
              refine J.condF rfl ?_
              refine J.skip ?_
              refine JE.blockN ?_
              refine JE.seqN ?_
              refine J.reg ?_
              refine WL.rd (RD.move rfl) rfl rfl ?_
              refine WL.rd (RD.add rfl rfl (by omega) (by omega)) rfl rfl ?_
              refine WL.rd (RD.assign rfl) rfl rfl ?_
              refine WL.nil ?_
              refine JE.cutN ⟨_, ?_, j + 1, u, rfl, ?_, rfl, rfl⟩ ?_ ?_
              · omega
              · omega
              · exact (Sub.consE rfl (by first | rfl | (congr 1; omega) | (simp; done)) (Sub.consE rfl (by first | rfl | (congr 1; omega) | (simp; done)) (Sub.consE rfl (by first | rfl | (congr 1; omega) | (simp; done)) (Sub.consE rfl (by first | rfl | (congr 1; omega) | (simp; done)) (Sub.consE rfl (by first | rfl | (congr 1; omega) | (simp; done)) .nil)))))
              · exact (SubM.row rfl rfl (by first | rfl | rw [pickIx_no _ j (compF_no1 (by assumption))]) (SubM.cells rfl (by first | rfl | rw [pickIx_no _ j (compF_no1 (by assumption))]) (SubM.ro rfl (by first | rfl | rw [pickIx_no _ j (compF_no1 (by assumption))]) .nil)))
          ·
            refine J.exit ?_
            refine JE.seqX ?_
            refine JE.cutX ?_
            refine JE.blockHit ?_
            refine JE.seqN ?_
            refine J.seq ?_
            refine J.reg ?_
            refine WL.rd (RD.move rfl) rfl rfl ?_
            refine WL.rd (RD.assign rfl) rfl rfl ?_
            refine WL.nil ?_
            refine JE.seqN ?_
            refine J.ret ?_
            refine JE.ret rfl (.tmp rfl .nil) (fun w hS => ?_)
            exact CN.fin hS u rfl trivial (SubM.row rfl rfl (by unfold compI; rw [if_pos ⟨hg, by omega, by omega⟩, show n.toNat = j by omega]) .nil) (by simp [En.rdb])
theorem compI_len (n : Int) (xs : List (Int × Int)) (i : Int) : (compI n xs i).length ≤ 8 := by
  unfold compI
  split
  · rename_i h0
    have h := pickIx_le (compF n xs i) n.toNat
    have h2 : isG n xs := h0.1
    have := h2.1; have := h2.2.1
    omega
  · simp
theorem gpI_len (n : Int) (xs : List (Int × Int)) (k : Int) (f t pl : List Int) (a b want : Int) : (gpI n xs k f t pl a b want).1.f.length = f.length ∧ (gpI n xs k f t pl a b want).1.t.length = t.length ∧ (gpI n xs k f t pl a b want).1.pl.length = pl.length := by
  unfold gpI
  split
  · rename_i h
    obtain ⟨⟨h1, h2, h3, h4, h5⟩, h6⟩ := h
    have hp := isP_ok h1
    have hk3 := h1.2.1
    have hn1 := h1.1.1
    have hgs := gathP_spec (n := n.toNat) (k := k) (xs := xs) (a := a) (b := b) (want := want) (by omega) (by omega) h4 8 ⟨f, t, pl⟩ hp (by have h1 := hp.pos a (by omega) (by omega); have h2 := hp.pos b (by omega) (by omega); simp only at h1 h2 ⊢; omega)
    have e1 := hgs.1.fl
    have e2 := hgs.1.pv.tl
    have e3 := hgs.2.1
    have e4 := hp.fl
    have e5 := hp.pv.tl
    simp only at e3 e4 e5
    rw [e3] at e2
    exact ⟨by omega, by omega, by rw [e3]⟩
  · exact ⟨rfl, rfl, rfl⟩
end Go.Proofs.Ytnfkalfpijolkaa
