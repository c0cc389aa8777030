/- Contracts of functions of the program, each walked once; written by a program of our own. -/
import Derived.Test.YtmnaohimnladnaaGm
namespace Go.Proofs.Ytmnaohimnladnaa
open Go Go.RowKit
set_option maxRecDepth 4000

def putR (b : Bool) (ys r : List (Int × Int)) (x : Int × Int) : List (Int × Int) := if b = true then ys ++ r else ys ++ putL r x
theorem drop_cons {xs : List (Int × Int)} {c : Nat} (h : c < xs.length) : xs.drop c = xs.getD c default :: xs.drop (c + 1) := by
  rw [List.drop_eq_getElem_cons h, List.getD_eq_getElem?_getD, List.getElem?_eq_getElem h]; rfl
theorem putR_stay {xs ys : List (Int × Int)} {x : Int × Int} {c : Nat} (h : c < xs.length) (hl : leB (xs.getD c default) x) : putR false (ys ++ [xs.getD c default]) (xs.drop (c + 1)) x = putR false ys (xs.drop c) x := by
  unfold putR
  rw [if_neg (by decide), if_neg (by decide), drop_cons h, putL, if_pos hl, List.append_assoc]; rfl
theorem putR_put {xs ys : List (Int × Int)} {x : Int × Int} {c : Nat} (h : c < xs.length) (hl : ¬ leB (xs.getD c default) x) : putR true (ys ++ [x] ++ [xs.getD c default]) (xs.drop (c + 1)) x = putR false ys (xs.drop c) x := by
  unfold putR
  rw [if_pos rfl, if_neg (by decide), drop_cons h, putL, if_neg hl, List.append_assoc, List.append_assoc]; rfl
theorem putR_past {xs ys : List (Int × Int)} {x : Int × Int} {c : Nat} (h : c < xs.length) : putR true (ys ++ [xs.getD c default]) (xs.drop (c + 1)) x = putR true ys (xs.drop c) x := by
  unfold putR
  rw [if_pos rfl, if_pos rfl, drop_cons h, List.append_assoc]; rfl
theorem putR_end {xs ys : List (Int × Int)} {x : Int × Int} {c : Nat} {b : Bool} (h : ¬ c < xs.length) : putR b ys (xs.drop c) x = if b = true then ys else ys ++ [x] := by
  unfold putR
  rw [List.drop_eq_nil_of_le (by omega), List.append_nil]; rfl
theorem l2Put_c (n : Int) (v : Value) (xs : List (Int × Int)) (x : Int × Int) (w : World) (hr : Rd w v 2 (xs.map bv)) (hxl : xs.length ≤ 1048576) :
    CN Try.prog 69 [.agg #[.int .i64 n, v], .agg (bv x).toArray] w Value (fun _ => True) (fun u => .agg #[.int .i64 n, u]) (fun u => [.row u 67 2 ((putL xs x).map bv)]) := by
  refine calls_of_J (mu := (fun _ => False)) (m := [.ro v 2 (xs.map bv)]) (e := [(0, .agg #[.int .i64 n, v]), (1, .agg (bv x).toArray)]) Try.func69 rfl rfl (.cons rfl (.cons rfl .nil)) (((St.init _ _).ro0 hr (by decide))) ?_
  refine J.seq ?_
  refine J.reg ?_
  refine WL.efS (EF.boxA rfl) rfl rfl ?_
  intro b2 _
  refine WL.efS (EF.boxA rfl) rfl rfl ?_
  intro b3 _
  refine WL.efS (EF.allocA) rfl rfl ?_
  intro b4 _
  refine WL.nil ?_
  refine JE.seqN ?_
  refine J.seq ?_
  refine J.reg ?_
  refine WL.rd (RD.fieldC rfl rfl) rfl rfl ?_
  refine WL.rd (RD.loadC rfl rfl) rfl rfl ?_
  refine WL.efS (EF.build0) rfl rfl ?_
  intro v10 _
  refine WL.rd (RD.build (n := 2) (.cons rfl (.cons rfl .nil)) rfl) rfl rfl ?_
  refine WL.efS (EF.allocA) rfl rfl ?_
  intro b5 _
  refine WL.efN (EF.storeA rfl rfl rfl rfl) rfl ?_
  rintro ⟨⟩ -
  refine WL.nil ?_
  refine JE.seqN ?_
  refine J.seq ?_
  refine J.reg ?_
  refine WL.rd (RD.assign rfl) rfl rfl ?_
  refine WL.nil ?_
  refine JE.seqN ?_
  refine J.seq ?_
  refine J.seq ?_
  refine J.reg ?_
  refine WL.rd (RD.assign rfl) rfl rfl ?_
  refine WL.nil ?_
  refine JE.seqN ?_
  refine J.block ?_
  refine J.loop (fun gg ee mm => ∃ (c : Nat), ∃ (b : Bool), ∃ (ys : List (Int × Int)), ∃ (u : Value), gg = xs.length - c ∧ ((c ≤ xs.length) ∧ (ys.length ≤ c + 1 ∧ (b = false → ys.length ≤ c)) ∧ (putR b ys (xs.drop c) x = putL xs x)) ∧ ee = [(6, .bool b), (7, .int .i64 (c : Int)), (2, .pointer (some ⟨b2, 0, none⟩)), (3, .pointer (some ⟨b3, 0, none⟩)), (4, .pointer (some ⟨b4, 0, none⟩)), (5, .pointer (some ⟨b5, 0, none⟩))] ∧ mm = [.cells b5 30 [.int .i64 n, u], .row u 67 2 ((ys).map bv), .cells b4 30 [.int .i64 0, .slice none 0 0], .cells b3 67 [.int .i64 x.1, .int .i64 x.2], .cells b2 30 [.int .i64 n, v], .ro v 2 (xs.map bv)]) _ ⟨0, false, [], v10, rfl, ?_, rfl, rfl⟩ ?_ ?_ ?_
  · exact ⟨by omega, ⟨by simp, fun _ => by simp⟩, rfl⟩
  · exact (Sub.consE rfl (by first | rfl | (congr 1; omega) | (simp; done)) (Sub.consE rfl (by first | rfl | (congr 1; omega) | (simp; done)) (Sub.consE rfl (by first | rfl | (congr 1; omega) | (simp; done)) (Sub.consE rfl (by first | rfl | (congr 1; omega) | (simp; done)) (Sub.consE rfl (by first | rfl | (congr 1; omega) | (simp; done)) (Sub.consE rfl (by first | rfl | (congr 1; omega) | (simp; done)) .nil))))))
  · exact (SubM.cells rfl (by first | rfl | (simp; done)) (SubM.row rfl rfl (by first | rfl | (simp [iv, bv, yv, tv, sv]; done)) (SubM.cells rfl (by first | rfl | (simp; done)) (SubM.cells rfl (by first | rfl | (simp; done)) (SubM.cells rfl (by first | rfl | (simp; done)) (SubM.ro rfl (by first | rfl | (simp [iv, bv, yv, tv, sv]; done)) .nil))))))
  · rintro g _ _ ⟨c, b, ys, u, rfl, hI, rfl, rfl⟩
    refine J.seq ?_
    refine J.seq ?_
    refine J.reg ?_
    refine WL.rd (RD.move rfl) rfl rfl ?_
    refine WL.rd (RD.fieldC rfl rfl) rfl rfl ?_
    refine WL.rd (RD.loadC rfl rfl) rfl rfl ?_
    refine WL.rd (RD.lenR rfl) rfl rfl ?_
    refine WL.rd (RD.lss rfl rfl) rfl rfl ?_
    refine WL.nil ?_
    refine JE.seqN ?_
    refine J.condP rfl (fun hc16 => ?_) (fun hc16 => ?_)
    ·
      refine J.skip ?_
      refine JE.seqN ?_
      refine J.seq ?_
      refine J.block ?_
      refine J.seq ?_
      refine J.seq ?_
      refine J.anyAll [] ?_
      refine WA.takeP 0 rfl (RDP.of fun _ => RD.move rfl) rfl (by kernel_rfl) rfl ?_
      refine WA.takeP 1 rfl (RDP.of fun _ => RD.not rfl) rfl (by kernel_rfl) rfl ?_
      refine WA.takeP 2 rfl (RDP.of fun _ => RD.move rfl) rfl (by kernel_rfl) rfl ?_
      refine WA.case 21 rfl (fun hg21 => ?_) (fun hg21 => ?_)
      ·
        refine WA.takeP 3 rfl (RDP.of fun _ => RD.fieldC rfl rfl) rfl (by kernel_rfl) rfl ?_
        refine WA.take 4 rfl (RD.loadC rfl rfl) rfl (by kernel_rfl) rfl ?_
        refine WA.takeP 5 rfl (RDP.of fun _ => RD.move rfl) rfl (by kernel_rfl) rfl ?_
        refine WA.takeP 6 rfl (RDP.idx rfl rfl (by omega) rfl) rfl (by kernel_rfl) rfl ?_
        refine WA.take 7 rfl (RD.loadEA rfl (by omega) rfl) rfl (by kernel_rfl) rfl ?_
        refine WA.take 8 rfl (RD.loadA rfl rfl) rfl (by kernel_rfl) rfl ?_
        refine WA.one (i := 9) (by kernel_rfl) ?_
        refine WAi.efS rfl (EF.callS (.cons rfl (.cons rfl .nil)) (fun w hS => l2After_c _ _ _)) rfl rfl (fun _ => SubI.sub) ?_
        rintro ⟨⟩ -
        refine WA.takeP 10 rfl (RDP.of fun _ => RD.notP rfl) rfl (by kernel_rfl) rfl ?_
        refine WA.takeP 11 rfl (RDP.of fun _ => RD.pickT rfl rfl) rfl (by kernel_rfl) rfl ?_
        refine WA.done (by kernel_rfl) ?_
        refine JE.seqN ?_
        refine J.condP rfl (fun hc30 => ?_) (fun hc30 => ?_)
        ·
          refine J.seq ?_
          refine J.reg ?_
          refine WL.rd (RD.fieldC rfl rfl) rfl rfl ?_
          refine WL.rd (RD.loadC rfl rfl) rfl rfl ?_
          refine WL.rd (RD.loadA rfl rfl) rfl rfl ?_
          refine WL.efS (EF.build1P rfl) rfl rfl ?_
          intro v34 _
          refine WL.efS (EF.append rfl rfl (by omega) rfl rfl rfl) rfl rfl ?_
          intro v35 _
          refine WL.rd (RD.fieldC rfl rfl) rfl rfl ?_
          refine WL.efN (EF.storeC rfl rfl rfl) rfl ?_
          rintro ⟨⟩ -
          refine WL.nil ?_
          refine JE.seqN ?_
          refine J.reg ?_
          refine WL.rd (RD.assign rfl) rfl rfl ?_
          refine WL.nil ?_
          refine JE.seqN ?_
          refine J.anyDrop [10] (v35) ?_
          refine WA.takeP 0 rfl (RDP.of fun _ => RD.fieldC rfl rfl) rfl (by kernel_rfl) rfl ?_
          refine WA.take 1 rfl (RD.loadC rfl rfl) rfl (by kernel_rfl) rfl ?_
          refine WA.takeP 2 rfl (RDP.of fun _ => RD.fieldC rfl rfl) rfl (by kernel_rfl) rfl ?_
          refine WA.take 3 rfl (RD.loadC rfl rfl) rfl (by kernel_rfl) rfl ?_
          refine WA.takeP 4 rfl (RDP.of fun _ => RD.move rfl) rfl (by kernel_rfl) rfl ?_
          refine WA.takeP 5 rfl (RDP.idx rfl rfl (by omega) rfl) rfl (by kernel_rfl) rfl ?_
          refine WA.take 6 rfl (RD.loadEA rfl (by omega) rfl) rfl (by kernel_rfl) rfl ?_
          refine WA.one (i := 7) (by kernel_rfl) ?_
          refine WAi.efS rfl (EF.build1P rfl) rfl rfl (fun _ => SubI.sub) ?_
          intro v44 _
          refine WA.one (i := 8) (by kernel_rfl) ?_
          refine WAi.efS rfl (EF.append rfl rfl (by omega) rfl rfl rfl) rfl rfl (fun _ => SubI.sub) ?_
          intro v45 _
          refine WA.takeP 9 rfl (RDP.of fun _ => RD.fieldC rfl rfl) rfl (by kernel_rfl) rfl ?_
          refine WA.one (i := 10) (by kernel_rfl) ?_
          refine WAi.efNL rfl (EF.storeC rfl rfl rfl) rfl rfl ?_
          rintro ⟨⟩ -
          refine WB.done (by kernel_rfl) ?_
          refine JE.blockN ?_
          refine JE.seqN ?_
          refine J.reg ?_
          refine WL.rd (RD.move rfl) rfl rfl ?_
          refine WL.rd (RD.add rfl rfl (by omega) (by omega)) rfl rfl ?_
          refine WL.rd (RD.assign rfl) rfl rfl ?_
          refine WL.nil ?_
          refine JE.cutN ⟨_, ?_, c + 1, true, (ys ++ [x] ++ [(xs.getD c default)]), v45, rfl, ?_, rfl, rfl⟩ ?_ ?_
          · omega
          · have hb : b = false := (by simpa using hg21); have hyl := hI.2.1.2 hb; subst hb; exact ⟨by omega, ⟨by simp; omega, fun h => by cases h⟩, by rw [putR_put (by omega) hc30]; exact hI.2.2⟩
          · exact (Sub.consE rfl (by first | rfl | (congr 1; omega) | (simp; done)) (Sub.consE rfl (by first | rfl | (congr 1; omega) | (simp; done)) (Sub.consE rfl (by first | rfl | (congr 1; omega) | (simp; done)) (Sub.consE rfl (by first | rfl | (congr 1; omega) | (simp; done)) (Sub.consE rfl (by first | rfl | (congr 1; omega) | (simp; done)) (Sub.consE rfl (by first | rfl | (congr 1; omega) | (simp; done)) .nil))))))
          · exact (SubM.cells rfl (by first | rfl | (simp; done)) (SubM.row rfl rfl (by first | rfl | (simp [iv, bv, yv, tv, sv]; done)) (SubM.cells rfl (by first | rfl | (simp; done)) (SubM.cells rfl (by first | rfl | (simp; done)) (SubM.cells rfl (by first | rfl | (simp; done)) (SubM.ro rfl (by first | rfl | (simp [iv, bv, yv, tv, sv]; done)) .nil))))))
        ·
          refine J.skip ?_
          refine JE.seqN ?_
          refine J.anyDrop [10] (u) ?_
          refine WA.takeP 0 rfl (RDP.of fun _ => RD.fieldC rfl rfl) rfl (by kernel_rfl) rfl ?_
          refine WA.take 1 rfl (RD.loadC rfl rfl) rfl (by kernel_rfl) rfl ?_
          refine WA.takeP 2 rfl (RDP.of fun _ => RD.fieldC rfl rfl) rfl (by kernel_rfl) rfl ?_
          refine WA.take 3 rfl (RD.loadC rfl rfl) rfl (by kernel_rfl) rfl ?_
          refine WA.takeP 4 rfl (RDP.of fun _ => RD.move rfl) rfl (by kernel_rfl) rfl ?_
          refine WA.takeP 5 rfl (RDP.idx rfl rfl (by omega) rfl) rfl (by kernel_rfl) rfl ?_
          refine WA.take 6 rfl (RD.loadEA rfl (by omega) rfl) rfl (by kernel_rfl) rfl ?_
          refine WA.one (i := 7) (by kernel_rfl) ?_
          refine WAi.efS rfl (EF.build1P rfl) rfl rfl (fun _ => SubI.sub) ?_
          intro v44 _
          refine WA.one (i := 8) (by kernel_rfl) ?_
          refine WAi.efS rfl (EF.append rfl rfl (by omega) rfl rfl rfl) rfl rfl (fun _ => SubI.sub) ?_
          intro v45 _
          refine WA.takeP 9 rfl (RDP.of fun _ => RD.fieldC rfl rfl) rfl (by kernel_rfl) rfl ?_
          refine WA.one (i := 10) (by kernel_rfl) ?_
          refine WAi.efNL rfl (EF.storeC rfl rfl rfl) rfl rfl ?_
          rintro ⟨⟩ -
          refine WB.done (by kernel_rfl) ?_
          refine JE.blockN ?_
          refine JE.seqN ?_
          refine J.reg ?_
          refine WL.rd (RD.move rfl) rfl rfl ?_
          refine WL.rd (RD.add rfl rfl (by omega) (by omega)) rfl rfl ?_
          refine WL.rd (RD.assign rfl) rfl rfl ?_
          refine WL.nil ?_
          refine JE.cutN ⟨_, ?_, c + 1, b, (ys ++ [(xs.getD c default)]), v45, rfl, ?_, rfl, rfl⟩ ?_ ?_
          · omega
          · have hb : b = false := (by simpa using hg21); have hyl := hI.2.1.2 hb; subst hb; exact ⟨by omega, ⟨by simp; omega, fun _ => by simp; omega⟩, by rw [putR_stay (by omega) (Decidable.not_not.1 hc30)]; exact hI.2.2⟩
          · exact (Sub.consE rfl (by first | rfl | (congr 1; omega) | (simp; done)) (Sub.consE rfl (by first | rfl | (congr 1; omega) | (simp; done)) (Sub.consE rfl (by first | rfl | (congr 1; omega) | (simp; done)) (Sub.consE rfl (by first | rfl | (congr 1; omega) | (simp; done)) (Sub.consE rfl (by first | rfl | (congr 1; omega) | (simp; done)) (Sub.consE rfl (by first | rfl | (congr 1; omega) | (simp; done)) .nil))))))
          · exact (SubM.cells rfl (by first | rfl | (simp; done)) (SubM.row rfl rfl (by first | rfl | (simp [iv, bv, yv, tv, sv]; done)) (SubM.cells rfl (by first | rfl | (simp; done)) (SubM.cells rfl (by first | rfl | (simp; done)) (SubM.cells rfl (by first | rfl | (simp; done)) (SubM.ro rfl (by first | rfl | (simp [iv, bv, yv, tv, sv]; done)) .nil))))))
      ·
        refine WA.no 3 rfl rfl (by kernel_rfl) rfl ?_
        refine WA.no 4 rfl rfl (by kernel_rfl) rfl ?_
        refine WA.no 5 rfl rfl (by kernel_rfl) rfl ?_
        refine WA.no 6 rfl rfl (by kernel_rfl) rfl ?_
        refine WA.no 7 rfl rfl (by kernel_rfl) rfl ?_
        refine WA.no 8 rfl rfl (by kernel_rfl) rfl ?_
        refine WA.no 9 rfl rfl (by kernel_rfl) rfl ?_
        refine WA.no 10 rfl rfl (by kernel_rfl) rfl ?_
        refine WA.takeP 11 rfl (RDP.of fun _ => RD.pickF rfl rfl) rfl (by kernel_rfl) rfl ?_
        refine WA.done (by kernel_rfl) ?_
        refine JE.seqN ?_
        refine J.condF rfl ?_
        refine J.skip ?_
        refine JE.seqN ?_
        refine J.anyDrop [10] (u) ?_
        refine WA.takeP 0 rfl (RDP.of fun _ => RD.fieldC rfl rfl) rfl (by kernel_rfl) rfl ?_
        refine WA.take 1 rfl (RD.loadC rfl rfl) rfl (by kernel_rfl) rfl ?_
        refine WA.takeP 2 rfl (RDP.of fun _ => RD.fieldC rfl rfl) rfl (by kernel_rfl) rfl ?_
        refine WA.take 3 rfl (RD.loadC rfl rfl) rfl (by kernel_rfl) rfl ?_
        refine WA.takeP 4 rfl (RDP.of fun _ => RD.move rfl) rfl (by kernel_rfl) rfl ?_
        refine WA.takeP 5 rfl (RDP.idx rfl rfl (by omega) rfl) rfl (by kernel_rfl) rfl ?_
        refine WA.take 6 rfl (RD.loadEA rfl (by omega) rfl) rfl (by kernel_rfl) rfl ?_
        refine WA.one (i := 7) (by kernel_rfl) ?_
        refine WAi.efS rfl (EF.build1P rfl) rfl rfl (fun _ => SubI.sub) ?_
        intro v44 _
        refine WA.one (i := 8) (by kernel_rfl) ?_
        refine WAi.efS rfl (EF.append rfl rfl (by omega) rfl rfl rfl) rfl rfl (fun _ => SubI.sub) ?_
        intro v45 _
        refine WA.takeP 9 rfl (RDP.of fun _ => RD.fieldC rfl rfl) rfl (by kernel_rfl) rfl ?_
        refine WA.one (i := 10) (by kernel_rfl) ?_
        refine WAi.efNL rfl (EF.storeC rfl rfl rfl) rfl rfl ?_
        rintro ⟨⟩ -
        refine WB.done (by kernel_rfl) ?_
        refine JE.blockN ?_
        refine JE.seqN ?_
        refine J.reg ?_
        refine WL.rd (RD.move rfl) rfl rfl ?_
        refine WL.rd (RD.add rfl rfl (by omega) (by omega)) rfl rfl ?_
        refine WL.rd (RD.assign rfl) rfl rfl ?_
        refine WL.nil ?_
        refine JE.cutN ⟨_, ?_, c + 1, b, (ys ++ [(xs.getD c default)]), v45, rfl, ?_, rfl, rfl⟩ ?_ ?_
        · omega
        · have hb : b = true := (by simpa using hg21); have hyl := hI.2.1.1; subst hb; exact ⟨by omega, ⟨by simp; omega, fun h => by cases h⟩, by rw [putR_past (by omega)]; exact hI.2.2⟩
        · exact (Sub.consE rfl (by first | rfl | (congr 1; omega) | (simp; done)) (Sub.consE rfl (by first | rfl | (congr 1; omega) | (simp; done)) (Sub.consE rfl (by first | rfl | (congr 1; omega) | (simp; done)) (Sub.consE rfl (by first | rfl | (congr 1; omega) | (simp; done)) (Sub.consE rfl (by first | rfl | (congr 1; omega) | (simp; done)) (Sub.consE rfl (by first | rfl | (congr 1; omega) | (simp; done)) .nil))))))
        · exact (SubM.cells rfl (by first | rfl | (simp; done)) (SubM.row rfl rfl (by first | rfl | (simp [iv, bv, yv, tv, sv]; done)) (SubM.cells rfl (by first | rfl | (simp; done)) (SubM.cells rfl (by first | rfl | (simp; done)) (SubM.cells rfl (by first | rfl | (simp; done)) (SubM.ro rfl (by first | rfl | (simp [iv, bv, yv, tv, sv]; done)) .nil))))))
    ·
      refine J.exit ?_
      refine JE.seqX ?_
      refine JE.cutX ?_
      refine JE.blockHit ?_
      refine JE.seqN ?_
      refine J.seq ?_
      refine J.seq ?_
      refine J.reg ?_
      refine WL.rd (RD.move rfl) rfl rfl ?_
      refine WL.rd (RD.not rfl) rfl rfl ?_
      refine WL.nil ?_
      refine JE.seqN ?_
      refine J.cond rfl (fun hc48 => ?_) (fun hc48 => ?_)
      ·
        refine J.reg ?_
        refine WL.rd (RD.fieldC rfl rfl) rfl rfl ?_
        refine WL.rd (RD.loadC rfl rfl) rfl rfl ?_
        refine WL.rd (RD.loadA rfl rfl) rfl rfl ?_
        refine WL.efS (EF.build1P rfl) rfl rfl ?_
        intro v52 _
        refine WL.efS (EF.append rfl rfl (by omega) rfl rfl rfl) rfl rfl ?_
        intro v53 _
        refine WL.rd (RD.fieldC rfl rfl) rfl rfl ?_
        refine WL.efN (EF.storeC rfl rfl rfl) rfl ?_
        rintro ⟨⟩ -
        refine WL.nil ?_
        refine JE.seqN ?_
        refine J.seq ?_
        refine J.reg ?_
        refine WL.rd (RD.loadA rfl rfl) rfl rfl ?_
        refine WL.efN (EF.storeA rfl rfl rfl rfl) rfl ?_
        rintro ⟨⟩ -
        refine WL.nil ?_
        refine JE.seqN ?_
        refine J.ret ?_
        refine JE.ret rfl (ResL.flat rfl rfl .nil) (fun w hS => ?_)
        exact CN.fin hS v53 rfl trivial (SubM.row rfl rfl (by rw [← hI.2.2, putR_end (by omega), if_neg (by simpa using hc48)]) .nil) (by simp [En.rdb])
      ·
        refine J.skip ?_
        refine JE.seqN ?_
        refine J.seq ?_
        refine J.reg ?_
        refine WL.rd (RD.loadA rfl rfl) rfl rfl ?_
        refine WL.efN (EF.storeA rfl rfl rfl rfl) rfl ?_
        rintro ⟨⟩ -
        refine WL.nil ?_
        refine JE.seqN ?_
        refine J.ret ?_
        refine JE.ret rfl (ResL.flat rfl rfl .nil) (fun w hS => ?_)
        exact CN.fin hS u rfl trivial (SubM.row rfl rfl (by rw [← hI.2.2, putR_end (by omega), if_pos (by simpa using hc48)]) .nil) (by simp [En.rdb])
theorem compI_len (n : Int) (xs : List (Int × Int)) (i : Int) : (compI n xs i).length ≤ 8 := by
  unfold compI
  split
  · rename_i h0
    have h := pickIx_le (compF n xs i) n.toNat
    have h2 : isG n xs := h0.1
    have := h2.1; have := h2.2.1
    omega
  · simp
theorem gpI_len (n : Int) (xs : List (Int × Int)) (k : Int) (f t pl : List Int) (a b want : Int) : (gpI n xs k f t pl a b want).1.f.length = f.length ∧ (gpI n xs k f t pl a b want).1.t.length = t.length ∧ (gpI n xs k f t pl a b want).1.pl.length = pl.length := by
  unfold gpI
  split
  · rename_i h
    obtain ⟨⟨h1, h2, h3, h4, h5⟩, h6⟩ := h
    have hp := isP_ok h1
    have hk3 := h1.2.1
    have hn1 := h1.1.1
    have hgs := gathP_spec (n := n.toNat) (k := k) (xs := xs) (a := a) (b := b) (want := want) (by omega) (by omega) h4 8 ⟨f, t, pl⟩ hp (by have h1 := hp.pos a (by omega) (by omega); have h2 := hp.pos b (by omega) (by omega); simp only at h1 h2 ⊢; omega)
    have e1 := hgs.1.fl
    have e2 := hgs.1.pv.tl
    have e3 := hgs.2.1
    have e4 := hp.fl
    have e5 := hp.pv.tl
    simp only at e3 e4 e5
    rw [e3] at e2
    exact ⟨by omega, by omega, by rw [e3]⟩
  · exact ⟨rfl, rfl, rfl⟩
end Go.Proofs.Ytmnaohimnladnaa
