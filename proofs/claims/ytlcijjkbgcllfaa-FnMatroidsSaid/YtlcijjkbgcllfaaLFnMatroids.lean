/- Contracts of functions of the program, each walked once; written by a program of our own. -/
import Derived.Test.YtlcijjkbgcllfaaDfM
import Derived.Test.YtlcijjkbgcllfaaSo
namespace Go.Proofs.Ytlcijjkbgcllfaa
open Go Go.RowKit
set_option maxRecDepth 4000

set_option maxHeartbeats 8000000 in
theorem law_c (vb : Value) (xb : List UInt8) (w : World) (hr : Rd w vb 1 (xb.map yv)) :
    CS Try.prog 6 [vb] w (.bool true) := by
 refine calls_of_J (mu := (fun _ => False)) (m := [.ro vb 1 (xb.map yv)]) (e := [(0, vb)]) Try.func6 rfl rfl (.cons rfl .nil) (((St.init _ _).ro0 hr (by decide))) ?_
 refine J.seq ?_
 refine J.reg ?_
 refine WL.rd (RD.assign rfl) rfl rfl ?_
 refine WL.nil ?_
 refine JE.seqN ?_
 refine J.seq ?_
 refine J.seq ?_
 refine J.reg ?_
 refine WL.rd (RD.move rfl) rfl rfl ?_
 refine WL.efS (EF.callS (.cons rfl .nil) (fun w hS => big_c vb xb _ (by exact RdI.rd hS))) rfl rfl ?_
 rintro ⟨⟩ -
 refine WL.nil ?_
 refine JE.seqN ?_
 refine J.condP rfl (fun hc24 => ?_) (fun hc24 => ?_)
 ·
  refine J.seq ?_
  refine J.reg ?_
  refine WL.rd (RD.assign rfl) rfl rfl ?_
  refine WL.nil ?_
  refine JE.seqN ?_
  refine J.ret ?_
  refine JE.ret rfl (.tmp rfl .nil) (fun w hS => ?_)
  first | exact CS.fin hS rfl | (exfalso; omega) | exact CS.fin hS (by simp_all [mkRes])
 ·
  have hlb : xb.length ≤ 1048576 := by omega
  refine J.skip ?_
  refine JE.seqN ?_
  refine J.seq ?_
  refine J.reg ?_
  refine WL.rd (RD.move rfl) rfl rfl ?_
  refine WL.efS (EF.callN (.cons rfl .nil) (fun w hS => DrawClosureOf_c vb xb _ (by exact RdI.rd hS) (by omega))) rfl rfl ?_
  rintro x27 hx27
  have hk27 : (-9223372036854775808 ≤ x27.2.2.2.1 ∧ x27.2.2.2.1 ≤ 9223372036854775807) := by omega
  have hl27 : (-9223372036854775808 ≤ x27.2.2.2.2.1 ∧ x27.2.2.2.2.1 ≤ 9223372036854775807) := by omega
  have hclo := cloI_len x27.1 x27.2.2.2.1 x27.2.2.2.2.1 x27.2.1 x27.2.2.2.2.2.1
  refine WL.rd (RD.move rfl) rfl rfl ?_
  refine WL.rd (RD.extract rfl rfl) rfl rfl ?_
  refine WL.rd (RD.extract rfl rfl) rfl rfl ?_
  refine WL.rd (RD.extract rfl rfl) rfl rfl ?_
  refine WL.rd (RD.extract rfl rfl) rfl rfl ?_
  refine WL.efS (EF.allocA) rfl rfl ?_
  intro b3 _
  refine WL.efN (EF.storeA rfl rfl rfl rfl) rfl ?_
  rintro ⟨⟩ -
  refine WL.rd (RD.assign rfl) rfl rfl ?_
  refine WL.rd (RD.assign rfl) rfl rfl ?_
  refine WL.rd (RD.assign rfl) rfl rfl ?_
  refine WL.nil ?_
  refine JE.seqN ?_
  refine J.seq ?_
  refine J.reg ?_
  refine WL.rd (RD.loadA rfl rfl) rfl rfl ?_
  refine WL.rd (RD.move rfl) rfl rfl ?_
  refine WL.rd (RD.move rfl) rfl rfl ?_
  refine WL.rd (RD.move rfl) rfl rfl ?_
  refine WL.efS (EF.callN (.cons rfl (.cons rfl (.cons rfl (.cons rfl .nil)))) (fun w hS => iClosureOf_c _ _ _ _ _ _ _ _ (by exact RdI.rd hS) (by first | assumption | (constructor <;> decide) | omega) (by first | assumption | (constructor <;> decide) | omega) (by exact RdI.rd hS) (by omega) (by omega))) rfl rfl ?_
  rintro v36 -
  refine WL.rd (RD.assign rfl) rfl rfl ?_
  refine WL.nil ?_
  refine JE.seqN ?_
  refine J.seq ?_
  refine J.reg ?_
  refine WL.rd (RD.loadA rfl rfl) rfl rfl ?_
  refine WL.rd (RD.move rfl) rfl rfl ?_
  refine WL.rd (RD.move rfl) rfl rfl ?_
  refine WL.rd (RD.move rfl) rfl rfl ?_
  refine WL.efS (EF.callS (.cons rfl (.cons rfl (.cons rfl (.cons rfl .nil)))) (fun w hS => iRankOfSet_c _ _ _ _ _ _ _ _ (by exact RdI.rd hS) (by first | assumption | (constructor <;> decide) | omega) (by first | assumption | (constructor <;> decide) | omega) (by exact RdI.rd hS) (by omega))) rfl rfl ?_
  rintro ⟨⟩ -
  refine WL.rd (RD.assign rfl) rfl rfl ?_
  refine WL.nil ?_
  refine JE.seqN ?_
  refine J.cut (fun ee mm => ((True)) ∧ ee = [(0, vb), (3, .pointer (some ⟨b3, 0, none⟩)), (4, .int .i64 x27.2.2.2.1), (5, .int .i64 x27.2.2.2.2.1), (7, v36), (8, .int .i64 (rsI x27.1 x27.2.2.2.1 x27.2.2.2.2.1 x27.2.1 x27.2.2.2.2.2.1))] ∧ mm = [.row v36 3 1 ((cloI x27.1 x27.2.2.2.1 x27.2.2.2.2.1 x27.2.1 x27.2.2.2.2.2.1).map iv), .cells b3 26 [.int .i64 x27.1, x27.2.2.1], .row x27.2.2.2.2.2.2 3 1 ((x27.2.2.2.2.2.1).map iv), .row x27.2.2.1 50 2 ((x27.2.1).map bv), .ro vb 1 (xb.map yv)]) ?_ ?_
  ·
   refine J.seq ?_
   refine J.anyAll [] ?_
   refine WA.takeP 0 rfl (RDP.of fun _ => RD.move rfl) rfl (by kernel_rfl) rfl ?_
   refine WA.take 1 rfl (RD.loadA rfl rfl) rfl (by kernel_rfl) rfl ?_
   refine WA.takeP 2 rfl (RDP.of fun _ => RD.move rfl) rfl (by kernel_rfl) rfl ?_
   refine WA.takeP 3 rfl (RDP.of fun _ => RD.move rfl) rfl (by kernel_rfl) rfl ?_
   refine WA.takeP 4 rfl (RDP.of fun _ => RD.move rfl) rfl (by kernel_rfl) rfl ?_
   refine WA.one (i := 5) (by kernel_rfl) ?_
   refine WAi.efS rfl (EF.callN (.cons rfl (.cons rfl (.cons rfl (.cons rfl .nil)))) (fun w hS => sClosureOf_c _ _ _ _ _ _ _ _ (by exact RdI.rd hS) (by first | assumption | (constructor <;> decide) | omega) (by first | assumption | (constructor <;> decide) | omega) (by exact RdI.rd hS) (by omega) (by omega))) rfl rfl (fun _ => SubI.sub) ?_
   rintro v47 -
   refine WA.one (i := 6) (by kernel_rfl) ?_
   refine WAi.efS rfl (EF.callS (.cons rfl (.cons rfl .nil)) (fun w hS => sameInts_c _ _ _ _ _ (by exact RdI.rd hS) (by exact RdI.rd hS))) rfl rfl (fun _ => SubI.sub) ?_
   rintro ⟨⟩ -
   refine WA.takeP 7 rfl (RDP.of fun _ => RD.notP rfl) rfl (by kernel_rfl) rfl ?_
   refine WA.takeP 8 rfl (RDP.of fun _ => RD.move rfl) rfl (by kernel_rfl) rfl ?_
   refine WA.caseP 50 rfl (fun hg50 => ?_) (fun hg50 => ?_)
   ·
    refine WA.no 9 rfl rfl (by kernel_rfl) rfl ?_
    refine WA.no 10 rfl rfl (by kernel_rfl) rfl ?_
    refine WA.no 11 rfl rfl (by kernel_rfl) rfl ?_
    refine WA.no 12 rfl rfl (by kernel_rfl) rfl ?_
    refine WA.no 13 rfl rfl (by kernel_rfl) rfl ?_
    refine WA.no 14 rfl rfl (by kernel_rfl) rfl ?_
    refine WA.no 15 rfl rfl (by kernel_rfl) rfl ?_
    refine WA.takeP 16 rfl (RDP.of fun _ => RD.pickT rfl rfl) rfl (by kernel_rfl) rfl ?_
    refine WA.takeP 17 rfl (RDP.of fun _ => RD.move rfl) rfl (by kernel_rfl) rfl ?_
    refine WA.no 18 rfl rfl (by kernel_rfl) rfl ?_
    refine WA.no 19 rfl rfl (by kernel_rfl) rfl ?_
    refine WA.no 20 rfl rfl (by kernel_rfl) rfl ?_
    refine WA.no 21 rfl rfl (by kernel_rfl) rfl ?_
    refine WA.no 22 rfl rfl (by kernel_rfl) rfl ?_
    refine WA.no 23 rfl rfl (by kernel_rfl) rfl ?_
    refine WA.no 24 rfl rfl (by kernel_rfl) rfl ?_
    refine WA.no 25 rfl rfl (by kernel_rfl) rfl ?_
    refine WA.no 26 rfl rfl (by kernel_rfl) rfl ?_
    refine WA.takeP 27 rfl (RDP.of fun _ => RD.pickT rfl rfl) rfl (by kernel_rfl) rfl ?_
    refine WA.takeP 28 rfl (RDP.of fun _ => RD.move rfl) rfl (by kernel_rfl) rfl ?_
    refine WA.no 29 rfl rfl (by kernel_rfl) rfl ?_
    refine WA.no 30 rfl rfl (by kernel_rfl) rfl ?_
    refine WA.no 31 rfl rfl (by kernel_rfl) rfl ?_
    refine WA.no 32 rfl rfl (by kernel_rfl) rfl ?_
    refine WA.no 33 rfl rfl (by kernel_rfl) rfl ?_
    refine WA.no 34 rfl rfl (by kernel_rfl) rfl ?_
    refine WA.no 35 rfl rfl (by kernel_rfl) rfl ?_
    refine WA.no 36 rfl rfl (by kernel_rfl) rfl ?_
    refine WA.no 37 rfl rfl (by kernel_rfl) rfl ?_
    refine WA.no 38 rfl rfl (by kernel_rfl) rfl ?_
    refine WA.no 39 rfl rfl (by kernel_rfl) rfl ?_
    refine WA.takeP 40 rfl (RDP.of fun _ => RD.pickT rfl rfl) rfl (by kernel_rfl) rfl ?_
    refine WA.done (by kernel_rfl) ?_
    refine JE.seqN ?_
    refine J.condT rfl ?_
    refine J.seq ?_
    refine J.reg ?_
    refine WL.rd (RD.assign rfl) rfl rfl ?_
    refine WL.nil ?_
    refine JE.seqN ?_
    refine J.ret ?_
    refine JE.ret rfl (.tmp rfl .nil) (fun w hS => ?_)
    first | exact CS.fin hS rfl | (exfalso; omega) | exact CS.fin hS (by simp_all [mkRes])
   ·
    refine WA.takeP 9 rfl (RDP.of fun _ => RD.move rfl) rfl (by kernel_rfl) rfl ?_
    refine WA.take 10 rfl (RD.loadA rfl rfl) rfl (by kernel_rfl) rfl ?_
    refine WA.takeP 11 rfl (RDP.of fun _ => RD.move rfl) rfl (by kernel_rfl) rfl ?_
    refine WA.takeP 12 rfl (RDP.of fun _ => RD.move rfl) rfl (by kernel_rfl) rfl ?_
    refine WA.takeP 13 rfl (RDP.of fun _ => RD.move rfl) rfl (by kernel_rfl) rfl ?_
    refine WA.one (i := 14) (by kernel_rfl) ?_
    refine WAi.efS rfl (EF.callS (.cons rfl (.cons rfl (.cons rfl (.cons rfl .nil)))) (fun w hS => sRankOfSet_c _ _ _ _ _ _ _ _ (by exact RdI.rd hS) (by first | assumption | (constructor <;> decide) | omega) (by first | assumption | (constructor <;> decide) | omega) (by exact RdI.rd hS) (by omega))) rfl rfl (fun _ => SubI.sub) ?_
    rintro ⟨⟩ -
    refine WA.takeP 15 rfl (RDP.of fun _ => RD.neq rfl rfl) rfl (by kernel_rfl) rfl ?_
    refine WA.takeP 16 rfl (RDP.of fun _ => RD.pickF rfl rfl) rfl (by kernel_rfl) rfl ?_
    refine WA.takeP 17 rfl (RDP.of fun _ => RD.move rfl) rfl (by kernel_rfl) rfl ?_
    refine WA.caseP 59 rfl (fun hg59 => ?_) (fun hg59 => ?_)
    ·
     refine WA.no 18 rfl rfl (by kernel_rfl) rfl ?_
     refine WA.no 19 rfl rfl (by kernel_rfl) rfl ?_
     refine WA.no 20 rfl rfl (by kernel_rfl) rfl ?_
     refine WA.no 21 rfl rfl (by kernel_rfl) rfl ?_
     refine WA.no 22 rfl rfl (by kernel_rfl) rfl ?_
     refine WA.no 23 rfl rfl (by kernel_rfl) rfl ?_
     refine WA.no 24 rfl rfl (by kernel_rfl) rfl ?_
     refine WA.no 25 rfl rfl (by kernel_rfl) rfl ?_
     refine WA.no 26 rfl rfl (by kernel_rfl) rfl ?_
     refine WA.takeP 27 rfl (RDP.of fun _ => RD.pickT rfl rfl) rfl (by kernel_rfl) rfl ?_
     refine WA.takeP 28 rfl (RDP.of fun _ => RD.move rfl) rfl (by kernel_rfl) rfl ?_
     refine WA.no 29 rfl rfl (by kernel_rfl) rfl ?_
     refine WA.no 30 rfl rfl (by kernel_rfl) rfl ?_
     refine WA.no 31 rfl rfl (by kernel_rfl) rfl ?_
     refine WA.no 32 rfl rfl (by kernel_rfl) rfl ?_
     refine WA.no 33 rfl rfl (by kernel_rfl) rfl ?_
     refine WA.no 34 rfl rfl (by kernel_rfl) rfl ?_
     refine WA.no 35 rfl rfl (by kernel_rfl) rfl ?_
     refine WA.no 36 rfl rfl (by kernel_rfl) rfl ?_
     refine WA.no 37 rfl rfl (by kernel_rfl) rfl ?_
     refine WA.no 38 rfl rfl (by kernel_rfl) rfl ?_
     refine WA.no 39 rfl rfl (by kernel_rfl) rfl ?_
     refine WA.takeP 40 rfl (RDP.of fun _ => RD.pickT rfl rfl) rfl (by kernel_rfl) rfl ?_
     refine WA.done (by kernel_rfl) ?_
     refine JE.seqN ?_
     refine J.condT rfl ?_
     refine J.seq ?_
     refine J.reg ?_
     refine WL.rd (RD.assign rfl) rfl rfl ?_
     refine WL.nil ?_
     refine JE.seqN ?_
     refine J.ret ?_
     refine JE.ret rfl (.tmp rfl .nil) (fun w hS => ?_)
     first | exact CS.fin hS rfl | (exfalso; omega) | exact CS.fin hS (by simp_all [mkRes])
    ·
     refine WA.take 18 rfl (RD.loadA rfl rfl) rfl (by kernel_rfl) rfl ?_
     refine WA.takeP 19 rfl (RDP.of fun _ => RD.move rfl) rfl (by kernel_rfl) rfl ?_
     refine WA.takeP 20 rfl (RDP.of fun _ => RD.move rfl) rfl (by kernel_rfl) rfl ?_
     refine WA.take 22 rfl (RD.loadA rfl rfl) rfl (by kernel_rfl) rfl ?_
     refine WA.takeP 23 rfl (RDP.of fun _ => RD.move rfl) rfl (by kernel_rfl) rfl ?_
     refine WA.takeP 24 rfl (RDP.of fun _ => RD.move rfl) rfl (by kernel_rfl) rfl ?_
     refine WA.one (i := 21) (by kernel_rfl) ?_
     refine WAi.efS rfl (EF.callS (.cons rfl (.cons rfl (.cons rfl .nil))) (fun w hS => iRankOf_c _ _ _ _ _ _ (by exact RdI.rd hS) (by first | assumption | (constructor <;> decide) | omega) (by first | assumption | (constructor <;> decide) | omega))) rfl rfl (fun _ => SubI.sub) ?_
     rintro ⟨⟩ -
     refine WA.one (i := 25) (by kernel_rfl) ?_
     refine WAi.efS rfl (EF.callS (.cons rfl (.cons rfl (.cons rfl .nil))) (fun w hS => sRankOf_c _ _ _ _ _ _ (by exact RdI.rd hS) (by first | assumption | (constructor <;> decide) | omega) (by first | assumption | (constructor <;> decide) | omega) (by omega))) rfl rfl (fun _ => SubI.sub) ?_
     rintro ⟨⟩ -
     refine WA.takeP 26 rfl (RDP.of fun _ => RD.neq rfl rfl) rfl (by kernel_rfl) rfl ?_
     refine WA.takeP 27 rfl (RDP.of fun _ => RD.pickF rfl rfl) rfl (by kernel_rfl) rfl ?_
     refine WA.takeP 28 rfl (RDP.of fun _ => RD.move rfl) rfl (by kernel_rfl) rfl ?_
     refine WA.caseP 70 rfl (fun hg70 => ?_) (fun hg70 => ?_)
     ·
      refine WA.no 29 rfl rfl (by kernel_rfl) rfl ?_
      refine WA.no 30 rfl rfl (by kernel_rfl) rfl ?_
      refine WA.no 31 rfl rfl (by kernel_rfl) rfl ?_
      refine WA.no 32 rfl rfl (by kernel_rfl) rfl ?_
      refine WA.no 33 rfl rfl (by kernel_rfl) rfl ?_
      refine WA.no 34 rfl rfl (by kernel_rfl) rfl ?_
      refine WA.no 35 rfl rfl (by kernel_rfl) rfl ?_
      refine WA.no 36 rfl rfl (by kernel_rfl) rfl ?_
      refine WA.no 37 rfl rfl (by kernel_rfl) rfl ?_
      refine WA.no 38 rfl rfl (by kernel_rfl) rfl ?_
      refine WA.no 39 rfl rfl (by kernel_rfl) rfl ?_
      refine WA.takeP 40 rfl (RDP.of fun _ => RD.pickT rfl rfl) rfl (by kernel_rfl) rfl ?_
      refine WA.done (by kernel_rfl) ?_
      refine JE.seqN ?_
      refine J.condT rfl ?_
      refine J.seq ?_
      refine J.reg ?_
      refine WL.rd (RD.assign rfl) rfl rfl ?_
      refine WL.nil ?_
      refine JE.seqN ?_
      refine J.ret ?_
      refine JE.ret rfl (.tmp rfl .nil) (fun w hS => ?_)
      first | exact CS.fin hS rfl | (exfalso; omega) | exact CS.fin hS (by simp_all [mkRes])
     ·
      refine WA.take 29 rfl (RD.loadA rfl rfl) rfl (by kernel_rfl) rfl ?_
      refine WA.takeP 30 rfl (RDP.of fun _ => RD.move rfl) rfl (by kernel_rfl) rfl ?_
      refine WA.takeP 31 rfl (RDP.of fun _ => RD.move rfl) rfl (by kernel_rfl) rfl ?_
      refine WA.takeP 32 rfl (RDP.of fun _ => RD.move rfl) rfl (by kernel_rfl) rfl ?_
      refine WA.take 34 rfl (RD.loadA rfl rfl) rfl (by kernel_rfl) rfl ?_
      refine WA.takeP 35 rfl (RDP.of fun _ => RD.move rfl) rfl (by kernel_rfl) rfl ?_
      refine WA.takeP 36 rfl (RDP.of fun _ => RD.move rfl) rfl (by kernel_rfl) rfl ?_
      refine WA.takeP 37 rfl (RDP.of fun _ => RD.move rfl) rfl (by kernel_rfl) rfl ?_
      refine WA.one (i := 33) (by kernel_rfl) ?_
      refine WAi.efS rfl (EF.callS (.cons rfl (.cons rfl (.cons rfl (.cons rfl .nil)))) (fun w hS => iIsIndependent_c _ _ _ _ _ _ _ _ (by exact RdI.rd hS) (by first | assumption | (constructor <;> decide) | omega) (by first | assumption | (constructor <;> decide) | omega) (by exact RdI.rd hS) (by omega))) rfl rfl (fun _ => SubI.sub) ?_
      rintro ⟨⟩ -
      refine WA.one (i := 38) (by kernel_rfl) ?_
      refine WAi.efS rfl (EF.callS (.cons rfl (.cons rfl (.cons rfl (.cons rfl .nil)))) (fun w hS => sIsIndependent_c _ _ _ _ _ _ _ _ (by exact RdI.rd hS) (by first | assumption | (constructor <;> decide) | omega) (by first | assumption | (constructor <;> decide) | omega) (by exact RdI.rd hS) (by omega))) rfl rfl (fun _ => SubI.sub) ?_
      rintro ⟨⟩ -
      refine WA.takeP 39 rfl (RDP.of fun _ => RD.neqB rfl rfl) rfl (by kernel_rfl) rfl ?_
      refine WA.takeP 40 rfl (RDP.of fun _ => RD.pickF rfl rfl) rfl (by kernel_rfl) rfl ?_
      refine WA.done (by kernel_rfl) ?_
      refine JE.seqN ?_
      refine J.cond rfl (fun hc82 => ?_) (fun hc82 => ?_)
      ·
       refine J.seq ?_
       refine J.reg ?_
       refine WL.rd (RD.assign rfl) rfl rfl ?_
       refine WL.nil ?_
       refine JE.seqN ?_
       refine J.ret ?_
       refine JE.ret rfl (.tmp rfl .nil) (fun w hS => ?_)
       first | exact CS.fin hS rfl | (exfalso; omega) | exact CS.fin hS (by simp_all [mkRes])
      ·
       refine J.skip ?_
       refine JE.cutN ⟨?_, rfl, rfl⟩ ?_ ?_
       · trivial
       · exact (Sub.consE rfl (by first | rfl | (congr 1; omega) | (simp; done)) (Sub.consE rfl (by first | rfl | (congr 1; omega) | (simp; done)) (Sub.consE rfl (by first | rfl | (congr 1; omega) | (simp; done)) (Sub.consE rfl (by first | rfl | (congr 1; omega) | (simp; done)) (Sub.consE rfl (by first | rfl | (congr 1; omega) | (simp; done)) (Sub.consE rfl (by first | rfl | (congr 1; omega) | (simp; done)) .nil))))))
       · exact (SubM.row rfl rfl (by first | rfl | (simp [iv, bv, yv, tv, sv]; done)) (SubM.cells rfl (by first | rfl | (simp; done)) (SubM.row rfl rfl (by first | rfl | (simp [iv, bv, yv, tv, sv]; done)) (SubM.row rfl rfl (by first | rfl | (simp [iv, bv, yv, tv, sv]; done)) (SubM.ro rfl (by first | rfl | (simp [iv, bv, yv, tv, sv]; done)) .nil)))))
  ·
   rintro _ _ ⟨-, rfl, rfl⟩
   refine J.cut (fun ee mm => ((True)) ∧ ee = [(0, vb), (3, .pointer (some ⟨b3, 0, none⟩)), (4, .int .i64 x27.2.2.2.1), (5, .int .i64 x27.2.2.2.2.1)] ∧ mm = [.row v36 3 1 ((cloI x27.1 x27.2.2.2.1 x27.2.2.2.2.1 x27.2.1 x27.2.2.2.2.2.1).map iv), .cells b3 26 [.int .i64 x27.1, x27.2.2.1], .row x27.2.2.2.2.2.2 3 1 ((x27.2.2.2.2.2.1).map iv), .row x27.2.2.1 50 2 ((x27.2.1).map bv), .ro vb 1 (xb.map yv)]) ?_ ?_
   ·
    refine J.seq ?_
    refine J.reg ?_
    refine WL.rd (RD.move rfl) rfl rfl ?_
    refine WL.rd (RD.lenR rfl) rfl rfl ?_
    refine WL.rd (RD.gtr rfl rfl) rfl rfl ?_
    refine WL.rd (RD.move rfl) rfl rfl ?_
    refine WL.caseP 86 rfl (fun hg86 => ?_) (fun hg86 => ?_)
    ·
     obtain ⟨ec1, ec2⟩ := clo_pos hg86
     refine WL.rd (RD.loadA rfl rfl) rfl rfl ?_
     refine WL.rd (RD.move rfl) rfl rfl ?_
     refine WL.rd (RD.move rfl) rfl rfl ?_
     refine WL.rd (RD.move rfl) rfl rfl ?_
     refine WL.efS (EF.callN (.cons rfl (.cons rfl (.cons rfl (.cons rfl .nil)))) (fun w hS => iClosureOf_c _ _ _ _ _ _ _ _ (by exact RdI.rd hS) (by first | assumption | (constructor <;> decide) | omega) (by first | assumption | (constructor <;> decide) | omega) (by exact RdI.rd hS) (by omega) (by omega))) rfl rfl ?_
     rintro v91 -
     refine WL.rd (RD.move rfl) rfl rfl ?_
     refine WL.efS (EF.callS (.cons rfl (.cons rfl .nil)) (fun w hS => sameInts_c _ _ _ _ _ (by exact RdI.rd hS) (by exact RdI.rd hS))) rfl rfl ?_
     rintro ⟨⟩ -
     refine WL.rd (RD.notP rfl) rfl rfl ?_
     refine WL.rd (RD.move rfl) rfl rfl ?_
     refine WL.caseP 95 rfl (fun hg95 => ?_) (fun hg95 => ?_)
     ·
      exfalso
      exact hg95 ec1
     ·
      refine WL.rd (RD.loadA rfl rfl) rfl rfl ?_
      refine WL.rd (RD.move rfl) rfl rfl ?_
      refine WL.rd (RD.move rfl) rfl rfl ?_
      refine WL.rd (RD.move rfl) rfl rfl ?_
      refine WL.efS (EF.callS (.cons rfl (.cons rfl (.cons rfl (.cons rfl .nil)))) (fun w hS => iRankOfSet_c _ _ _ _ _ _ _ _ (by exact RdI.rd hS) (by first | assumption | (constructor <;> decide) | omega) (by first | assumption | (constructor <;> decide) | omega) (by exact RdI.rd hS) (by omega))) rfl rfl ?_
      rintro ⟨⟩ -
      refine WL.rd (RD.move rfl) rfl rfl ?_
      refine WL.rd (RD.neq rfl rfl) rfl rfl ?_
      refine WL.rd (RD.pickF rfl rfl) rfl rfl ?_
      refine WL.rd (RD.pickT rfl rfl) rfl rfl ?_
      refine WL.nil ?_
      refine JE.seqN ?_
      refine J.condP rfl (fun hc104 => ?_) (fun hc104 => ?_)
      ·
       refine J.seq ?_
       refine J.reg ?_
       refine WL.rd (RD.assign rfl) rfl rfl ?_
       refine WL.nil ?_
       refine JE.seqN ?_
       refine J.ret ?_
       refine JE.ret rfl (.tmp rfl .nil) (fun w hS => ?_)
       first | exact CS.fin hS rfl | (exfalso; omega) | exact CS.fin hS (by simp_all [mkRes])
      ·
       refine J.skip ?_
       refine JE.cutN ⟨?_, rfl, rfl⟩ ?_ ?_
       · trivial
       · exact (Sub.consE rfl (by first | rfl | (congr 1; omega) | (simp; done)) (Sub.consE rfl (by first | rfl | (congr 1; omega) | (simp; done)) (Sub.consE rfl (by first | rfl | (congr 1; omega) | (simp; done)) (Sub.consE rfl (by first | rfl | (congr 1; omega) | (simp; done)) .nil))))
       · exact (SubM.row rfl rfl (by first | rfl | (simp [iv, bv, yv, tv, sv]; done)) (SubM.cells rfl (by first | rfl | (simp; done)) (SubM.row rfl rfl (by first | rfl | (simp [iv, bv, yv, tv, sv]; done)) (SubM.row rfl rfl (by first | rfl | (simp [iv, bv, yv, tv, sv]; done)) (SubM.ro rfl (by first | rfl | (simp [iv, bv, yv, tv, sv]; done)) .nil)))))
    ·
     refine WL.noS rfl rfl ?_
     refine WL.noS rfl rfl ?_
     refine WL.noS rfl rfl ?_
     refine WL.noS rfl rfl ?_
     refine WL.noS rfl rfl ?_
     refine WL.noS rfl rfl ?_
     refine WL.noS rfl rfl ?_
     refine WL.noS rfl rfl ?_
     refine WL.noS rfl rfl ?_
     refine WL.noS rfl rfl ?_
     refine WL.noS rfl rfl ?_
     refine WL.noS rfl rfl ?_
     refine WL.noS rfl rfl ?_
     refine WL.noS rfl rfl ?_
     refine WL.noS rfl rfl ?_
     refine WL.noS rfl rfl ?_
     refine WL.noS rfl rfl ?_
     refine WL.rd (RD.pickF rfl rfl) rfl rfl ?_
     refine WL.nil ?_
     refine JE.seqN ?_
     refine J.condF rfl ?_
     refine J.skip ?_
     refine JE.cutN ⟨?_, rfl, rfl⟩ ?_ ?_
     · trivial
     · exact (Sub.consE rfl (by first | rfl | (congr 1; omega) | (simp; done)) (Sub.consE rfl (by first | rfl | (congr 1; omega) | (simp; done)) (Sub.consE rfl (by first | rfl | (congr 1; omega) | (simp; done)) (Sub.consE rfl (by first | rfl | (congr 1; omega) | (simp; done)) .nil))))
     · exact (SubM.row rfl rfl (by first | rfl | (simp [iv, bv, yv, tv, sv]; done)) (SubM.cells rfl (by first | rfl | (simp; done)) (SubM.row rfl rfl (by first | rfl | (simp [iv, bv, yv, tv, sv]; done)) (SubM.row rfl rfl (by first | rfl | (simp [iv, bv, yv, tv, sv]; done)) (SubM.ro rfl (by first | rfl | (simp [iv, bv, yv, tv, sv]; done)) .nil)))))
   ·
    rintro _ _ ⟨-, rfl, rfl⟩
    refine J.seq ?_
    refine J.reg ?_
    refine WL.rd (RD.loadA rfl rfl) rfl rfl ?_
    refine WL.rd (RD.move rfl) rfl rfl ?_
    refine WL.rd (RD.move rfl) rfl rfl ?_
    refine WL.efS (EF.callN (.cons rfl (.cons rfl (.cons rfl .nil))) (fun w hS => iBridgesOf_c _ _ _ _ _ _ (by exact RdI.rd hS) (by first | assumption | (constructor <;> decide) | omega) (by first | assumption | (constructor <;> decide) | omega) (by omega))) rfl rfl ?_
    rintro v108 -
    refine WL.rd (RD.assign rfl) rfl rfl ?_
    refine WL.nil ?_
    refine JE.seqN ?_
    refine J.cut (fun ee mm => ((True)) ∧ ee = [(0, vb)] ∧ mm = [.row v108 3 1 ((briI x27.1 x27.2.2.2.1 x27.2.2.2.2.1 x27.2.1).map iv), .row v36 3 1 ((cloI x27.1 x27.2.2.2.1 x27.2.2.2.2.1 x27.2.1 x27.2.2.2.2.2.1).map iv), .cells b3 26 [.int .i64 x27.1, x27.2.2.1], .row x27.2.2.2.2.2.2 3 1 ((x27.2.2.2.2.2.1).map iv), .row x27.2.2.1 50 2 ((x27.2.1).map bv), .ro vb 1 (xb.map yv)]) ?_ ?_
    ·
     refine J.seq ?_
     refine J.reg ?_
     refine WL.rd (RD.move rfl) rfl rfl ?_
     refine WL.rd (RD.loadA rfl rfl) rfl rfl ?_
     refine WL.rd (RD.move rfl) rfl rfl ?_
     refine WL.rd (RD.move rfl) rfl rfl ?_
     refine WL.efS (EF.callN (.cons rfl (.cons rfl (.cons rfl .nil))) (fun w hS => sBridgesOf_c _ _ _ _ _ _ (by exact RdI.rd hS) (by first | assumption | (constructor <;> decide) | omega) (by first | assumption | (constructor <;> decide) | omega) (by omega))) rfl rfl ?_
     rintro v113 -
     refine WL.efS (EF.callS (.cons rfl (.cons rfl .nil)) (fun w hS => sameInts_c _ _ _ _ _ (by exact RdI.rd hS) (by exact RdI.rd hS))) rfl rfl ?_
     rintro ⟨⟩ -
     refine WL.rd (RD.notP rfl) rfl rfl ?_
     refine WL.nil ?_
     refine JE.seqN ?_
     refine J.condP rfl (fun hc115 => ?_) (fun hc115 => ?_)
     ·
      refine J.seq ?_
      refine J.reg ?_
      refine WL.rd (RD.assign rfl) rfl rfl ?_
      refine WL.nil ?_
      refine JE.seqN ?_
      refine J.ret ?_
      refine JE.ret rfl (.tmp rfl .nil) (fun w hS => ?_)
      first | exact CS.fin hS rfl | (exfalso; omega) | exact CS.fin hS (by simp_all [mkRes])
     ·
      refine J.skip ?_
      refine JE.cutN ⟨?_, rfl, rfl⟩ ?_ ?_
      · trivial
      · exact (Sub.consE rfl (by first | rfl | (congr 1; omega) | (simp; done)) .nil)
      · exact (SubM.row rfl rfl (by first | rfl | (simp [iv, bv, yv, tv, sv]; done)) (SubM.row rfl rfl (by first | rfl | (simp [iv, bv, yv, tv, sv]; done)) (SubM.cells rfl (by first | rfl | (simp; done)) (SubM.row rfl rfl (by first | rfl | (simp [iv, bv, yv, tv, sv]; done)) (SubM.row rfl rfl (by first | rfl | (simp [iv, bv, yv, tv, sv]; done)) (SubM.ro rfl (by first | rfl | (simp [iv, bv, yv, tv, sv]; done)) .nil))))))
    ·
     rintro _ _ ⟨-, rfl, rfl⟩
     refine J.seq ?_
     refine J.reg ?_
     refine WL.rd (RD.move rfl) rfl rfl ?_
     refine WL.efS (EF.callN (.cons rfl .nil) (fun w hS => DrawCircuitOf_c vb xb _ (by exact RdI.rd hS) (by omega))) rfl rfl ?_
     rintro x118 hx118
     have hk118 : (-9223372036854775808 ≤ x118.2.2.2.1 ∧ x118.2.2.2.1 ≤ 9223372036854775807) := by omega
     have hl118 : (-9223372036854775808 ≤ x118.2.2.2.2.1 ∧ x118.2.2.2.2.1 ≤ 9223372036854775807) := by omega
     have hb118 : (-9223372036854775808 ≤ x118.2.2.2.2.2 ∧ x118.2.2.2.2.2 ≤ 9223372036854775807) := by omega
     have hcl := cirI_len x118.1 x118.2.2.2.1 x118.2.2.2.2.1 x118.2.1 x118.2.2.2.2.2
     refine WL.rd (RD.move rfl) rfl rfl ?_
     refine WL.rd (RD.extract rfl rfl) rfl rfl ?_
     refine WL.rd (RD.extract rfl rfl) rfl rfl ?_
     refine WL.rd (RD.extract rfl rfl) rfl rfl ?_
     refine WL.rd (RD.extract rfl rfl) rfl rfl ?_
     refine WL.efS (EF.allocA) rfl rfl ?_
     intro b10 _
     refine WL.efN (EF.storeA rfl rfl rfl rfl) rfl ?_
     rintro ⟨⟩ -
     refine WL.rd (RD.assign rfl) rfl rfl ?_
     refine WL.rd (RD.assign rfl) rfl rfl ?_
     refine WL.rd (RD.assign rfl) rfl rfl ?_
     refine WL.nil ?_
     refine JE.seqN ?_
     refine J.seq ?_
     refine J.reg ?_
     refine WL.rd (RD.loadA rfl rfl) rfl rfl ?_
     refine WL.rd (RD.move rfl) rfl rfl ?_
     refine WL.rd (RD.move rfl) rfl rfl ?_
     refine WL.rd (RD.move rfl) rfl rfl ?_
     refine WL.efS (EF.callN (.cons rfl (.cons rfl (.cons rfl (.cons rfl .nil)))) (fun w hS => iCircuitOf_c _ _ _ _ _ _ _ (by exact RdI.rd hS) (by first | assumption | (constructor <;> decide) | omega) (by first | assumption | (constructor <;> decide) | omega) (by omega))) rfl rfl ?_
     rintro v128 -
     refine WL.rd (RD.move rfl) rfl rfl ?_
     refine WL.rd (RD.extract rfl rfl) rfl rfl ?_
     refine WL.rd (RD.extract rfl rfl) rfl rfl ?_
     refine WL.rd (RD.assign rfl) rfl rfl ?_
     refine WL.rd (RD.assign rfl) rfl rfl ?_
     refine WL.nil ?_
     refine JE.seqN ?_
     refine J.seq ?_
     refine J.reg ?_
     refine WL.rd (RD.loadA rfl rfl) rfl rfl ?_
     refine WL.rd (RD.move rfl) rfl rfl ?_
     refine WL.rd (RD.move rfl) rfl rfl ?_
     refine WL.rd (RD.move rfl) rfl rfl ?_
     refine WL.efS (EF.callN (.cons rfl (.cons rfl (.cons rfl (.cons rfl .nil)))) (fun w hS => sCircuitOf_c _ _ _ _ _ _ _ (by exact RdI.rd hS) (by first | assumption | (constructor <;> decide) | omega) (by first | assumption | (constructor <;> decide) | omega) (by omega))) rfl rfl ?_
     rintro v136 -
     refine WL.rd (RD.move rfl) rfl rfl ?_
     refine WL.rd (RD.extract rfl rfl) rfl rfl ?_
     refine WL.rd (RD.extract rfl rfl) rfl rfl ?_
     refine WL.rd (RD.assign rfl) rfl rfl ?_
     refine WL.rd (RD.assign rfl) rfl rfl ?_
     refine WL.nil ?_
     refine JE.seqN ?_
     refine J.cut (fun ee mm => ((True)) ∧ ee = [(0, vb), (10, .pointer (some ⟨b10, 0, none⟩)), (11, .int .i64 x118.2.2.2.1), (12, .int .i64 x118.2.2.2.2.1), (16, v136)] ∧ mm = [.row v136 3 1 ((cirI x118.1 x118.2.2.2.1 x118.2.2.2.2.1 x118.2.1 x118.2.2.2.2.2).map iv), .row v128 3 1 ((cirI x118.1 x118.2.2.2.1 x118.2.2.2.2.1 x118.2.1 x118.2.2.2.2.2).map iv), .cells b10 26 [.int .i64 x118.1, x118.2.2.1], .row x118.2.2.1 50 2 ((x118.2.1).map bv), .row v108 3 1 ((briI x27.1 x27.2.2.2.1 x27.2.2.2.2.1 x27.2.1).map iv), .row v36 3 1 ((cloI x27.1 x27.2.2.2.1 x27.2.2.2.2.1 x27.2.1 x27.2.2.2.2.2.1).map iv), .cells b3 26 [.int .i64 x27.1, x27.2.2.1], .row x27.2.2.2.2.2.2 3 1 ((x27.2.2.2.2.2.1).map iv), .row x27.2.2.1 50 2 ((x27.2.1).map bv), .ro vb 1 (xb.map yv)]) ?_ ?_
     ·
      refine J.seq ?_
      refine J.reg ?_
      refine WL.rd (RD.move rfl) rfl rfl ?_
      refine WL.rd (RD.move rfl) rfl rfl ?_
      refine WL.rd (RD.neqB rfl rfl) rfl rfl ?_
      refine WL.rd (RD.move rfl) rfl rfl ?_
      refine WL.case 142 rfl (fun hg142 => ?_) (fun hg142 => ?_)
      ·
       refine WL.noS rfl rfl ?_
       refine WL.noS rfl rfl ?_
       refine WL.noS rfl rfl ?_
       refine WL.noS rfl rfl ?_
       refine WL.rd (RD.pickT rfl rfl) rfl rfl ?_
       refine WL.rd (RD.move rfl) rfl rfl ?_
       refine WL.noS rfl rfl ?_
       refine WL.noS rfl rfl ?_
       refine WL.noS rfl rfl ?_
       refine WL.noS rfl rfl ?_
       refine WL.noS rfl rfl ?_
       refine WL.noS rfl rfl ?_
       refine WL.noS rfl rfl ?_
       refine WL.noS rfl rfl ?_
       refine WL.noS rfl rfl ?_
       refine WL.noS rfl rfl ?_
       refine WL.noS rfl rfl ?_
       refine WL.noS rfl rfl ?_
       refine WL.noS rfl rfl ?_
       refine WL.noS rfl rfl ?_
       refine WL.noS rfl rfl ?_
       refine WL.rd (RD.pickT rfl rfl) rfl rfl ?_
       refine WL.nil ?_
       refine JE.seqN ?_
       refine J.condT rfl ?_
       refine J.seq ?_
       refine J.reg ?_
       refine WL.rd (RD.assign rfl) rfl rfl ?_
       refine WL.nil ?_
       refine JE.seqN ?_
       refine J.ret ?_
       refine JE.ret rfl (.tmp rfl .nil) (fun w hS => ?_)
       first | exact CS.fin hS rfl | (exfalso; omega) | exact CS.fin hS (by simp_all [mkRes])
      ·
       refine WL.rd (RD.move rfl) rfl rfl ?_
       refine WL.rd (RD.move rfl) rfl rfl ?_
       refine WL.efS (EF.callS (.cons rfl (.cons rfl .nil)) (fun w hS => sameInts_c _ _ _ _ _ (by exact RdI.rd hS) (by exact RdI.rd hS))) rfl rfl ?_
       rintro ⟨⟩ -
       refine WL.rd (RD.notP rfl) rfl rfl ?_
       refine WL.rd (RD.pickF rfl rfl) rfl rfl ?_
       refine WL.rd (RD.move rfl) rfl rfl ?_
       refine WL.caseP 148 rfl (fun hg148 => ?_) (fun hg148 => ?_)
       ·
        refine WL.noS rfl rfl ?_
        refine WL.noS rfl rfl ?_
        refine WL.noS rfl rfl ?_
        refine WL.noS rfl rfl ?_
        refine WL.noS rfl rfl ?_
        refine WL.noS rfl rfl ?_
        refine WL.noS rfl rfl ?_
        refine WL.noS rfl rfl ?_
        refine WL.noS rfl rfl ?_
        refine WL.noS rfl rfl ?_
        refine WL.noS rfl rfl ?_
        refine WL.noS rfl rfl ?_
        refine WL.noS rfl rfl ?_
        refine WL.noS rfl rfl ?_
        refine WL.noS rfl rfl ?_
        refine WL.rd (RD.pickT rfl rfl) rfl rfl ?_
        refine WL.nil ?_
        refine JE.seqN ?_
        refine J.condT rfl ?_
        refine J.seq ?_
        refine J.reg ?_
        refine WL.rd (RD.assign rfl) rfl rfl ?_
        refine WL.nil ?_
        refine JE.seqN ?_
        refine J.ret ?_
        refine JE.ret rfl (.tmp rfl .nil) (fun w hS => ?_)
        first | exact CS.fin hS rfl | (exfalso; omega) | exact CS.fin hS (by simp_all [mkRes])
       ·
        refine WL.rd (RD.move rfl) rfl rfl ?_
        refine WL.rd (RD.move rfl) rfl rfl ?_
        refine WL.caseP 150 rfl (fun hg150 => ?_) (fun hg150 => ?_)
        ·
         have hcf := cir_facts hg150
         refine WL.rd (RD.loadA rfl rfl) rfl rfl ?_
         refine WL.rd (RD.move rfl) rfl rfl ?_
         refine WL.rd (RD.move rfl) rfl rfl ?_
         refine WL.rd (RD.move rfl) rfl rfl ?_
         refine WL.efS (EF.callS (.cons rfl (.cons rfl (.cons rfl (.cons rfl .nil)))) (fun w hS => iIsCircuit_c _ _ _ _ _ _ _ _ (by exact RdI.rd hS) (by first | assumption | (constructor <;> decide) | omega) (by first | assumption | (constructor <;> decide) | omega) (by exact RdI.rd hS) (by omega) (by omega))) rfl rfl ?_
         rintro ⟨⟩ -
         refine WL.rd (RD.notP rfl) rfl rfl ?_
         refine WL.rd (RD.move rfl) rfl rfl ?_
         refine WL.caseP 157 rfl (fun hg157 => ?_) (fun hg157 => ?_)
         ·
          exfalso
          exact hg157 hcf.1.1
         ·
          refine WL.rd (RD.move rfl) rfl rfl ?_
          refine WL.rd (RD.move rfl) rfl rfl ?_
          refine WL.efS (EF.callS (.cons rfl (.cons rfl .nil)) (fun w hS => has_c _ _ _ _ (by exact RdI.rd hS))) rfl rfl ?_
          rintro ⟨⟩ -
          refine WL.rd (RD.notP rfl) rfl rfl ?_
          refine WL.rd (RD.pickF rfl rfl) rfl rfl ?_
          refine WL.rd (RD.pickT rfl rfl) rfl rfl ?_
          refine WL.rd (RD.pickF rfl rfl) rfl rfl ?_
          refine WL.nil ?_
          refine JE.seqN ?_
          refine J.condP rfl (fun hc164 => ?_) (fun hc164 => ?_)
          ·
           refine J.seq ?_
           refine J.reg ?_
           refine WL.rd (RD.assign rfl) rfl rfl ?_
           refine WL.nil ?_
           refine JE.seqN ?_
           refine J.ret ?_
           refine JE.ret rfl (.tmp rfl .nil) (fun w hS => ?_)
           first | exact CS.fin hS rfl | (exfalso; omega) | exact CS.fin hS (by simp_all [mkRes])
          ·
           refine J.skip ?_
           refine JE.cutN ⟨?_, rfl, rfl⟩ ?_ ?_
           · trivial
           · exact (Sub.consE rfl (by first | rfl | (congr 1; omega) | (simp; done)) (Sub.consE rfl (by first | rfl | (congr 1; omega) | (simp; done)) (Sub.consE rfl (by first | rfl | (congr 1; omega) | (simp; done)) (Sub.consE rfl (by first | rfl | (congr 1; omega) | (simp; done)) (Sub.consE rfl (by first | rfl | (congr 1; omega) | (simp; done)) .nil)))))
           · exact (SubM.row rfl rfl (by first | rfl | (simp [iv, bv, yv, tv, sv]; done)) (SubM.row rfl rfl (by first | rfl | (simp [iv, bv, yv, tv, sv]; done)) (SubM.cells rfl (by first | rfl | (simp; done)) (SubM.row rfl rfl (by first | rfl | (simp [iv, bv, yv, tv, sv]; done)) (SubM.row rfl rfl (by first | rfl | (simp [iv, bv, yv, tv, sv]; done)) (SubM.row rfl rfl (by first | rfl | (simp [iv, bv, yv, tv, sv]; done)) (SubM.cells rfl (by first | rfl | (simp; done)) (SubM.row rfl rfl (by first | rfl | (simp [iv, bv, yv, tv, sv]; done)) (SubM.row rfl rfl (by first | rfl | (simp [iv, bv, yv, tv, sv]; done)) (SubM.ro rfl (by first | rfl | (simp [iv, bv, yv, tv, sv]; done)) .nil))))))))))
        ·
         refine WL.noS rfl rfl ?_
         refine WL.noS rfl rfl ?_
         refine WL.noS rfl rfl ?_
         refine WL.noS rfl rfl ?_
         refine WL.noS rfl rfl ?_
         refine WL.noS rfl rfl ?_
         refine WL.noS rfl rfl ?_
         refine WL.noS rfl rfl ?_
         refine WL.noS rfl rfl ?_
         refine WL.noS rfl rfl ?_
         refine WL.noS rfl rfl ?_
         refine WL.noS rfl rfl ?_
         refine WL.rd (RD.pickF rfl rfl) rfl rfl ?_
         refine WL.rd (RD.pickF rfl rfl) rfl rfl ?_
         refine WL.nil ?_
         refine JE.seqN ?_
         refine J.condF rfl ?_
         refine J.skip ?_
         refine JE.cutN ⟨?_, rfl, rfl⟩ ?_ ?_
         · trivial
         · exact (Sub.consE rfl (by first | rfl | (congr 1; omega) | (simp; done)) (Sub.consE rfl (by first | rfl | (congr 1; omega) | (simp; done)) (Sub.consE rfl (by first | rfl | (congr 1; omega) | (simp; done)) (Sub.consE rfl (by first | rfl | (congr 1; omega) | (simp; done)) (Sub.consE rfl (by first | rfl | (congr 1; omega) | (simp; done)) .nil)))))
         · exact (SubM.row rfl rfl (by first | rfl | (simp [iv, bv, yv, tv, sv]; done)) (SubM.row rfl rfl (by first | rfl | (simp [iv, bv, yv, tv, sv]; done)) (SubM.cells rfl (by first | rfl | (simp; done)) (SubM.row rfl rfl (by first | rfl | (simp [iv, bv, yv, tv, sv]; done)) (SubM.row rfl rfl (by first | rfl | (simp [iv, bv, yv, tv, sv]; done)) (SubM.row rfl rfl (by first | rfl | (simp [iv, bv, yv, tv, sv]; done)) (SubM.cells rfl (by first | rfl | (simp; done)) (SubM.row rfl rfl (by first | rfl | (simp [iv, bv, yv, tv, sv]; done)) (SubM.row rfl rfl (by first | rfl | (simp [iv, bv, yv, tv, sv]; done)) (SubM.ro rfl (by first | rfl | (simp [iv, bv, yv, tv, sv]; done)) .nil))))))))))
     ·
      rintro _ _ ⟨-, rfl, rfl⟩
      refine J.seq ?_
      refine J.seq ?_
      refine J.reg ?_
      refine WL.rd (RD.assign rfl) rfl rfl ?_
      refine WL.nil ?_
      refine JE.seqN ?_
      refine J.block ?_
      refine J.loop (fun gg ee mm => ∃ (k : Nat), gg = (cirI x118.1 x118.2.2.2.1 x118.2.2.2.2.1 x118.2.1 x118.2.2.2.2.2).length - k ∧ ((True)) ∧ ee = [(18, .int .i64 (k : Int)), (0, vb), (10, .pointer (some ⟨b10, 0, none⟩)), (11, .int .i64 x118.2.2.2.1), (12, .int .i64 x118.2.2.2.2.1), (16, v136)] ∧ mm = [.row v136 3 1 ((cirI x118.1 x118.2.2.2.1 x118.2.2.2.2.1 x118.2.1 x118.2.2.2.2.2).map iv), .row v128 3 1 ((cirI x118.1 x118.2.2.2.1 x118.2.2.2.2.1 x118.2.1 x118.2.2.2.2.2).map iv), .cells b10 26 [.int .i64 x118.1, x118.2.2.1], .row x118.2.2.1 50 2 ((x118.2.1).map bv), .row v108 3 1 ((briI x27.1 x27.2.2.2.1 x27.2.2.2.2.1 x27.2.1).map iv), .row v36 3 1 ((cloI x27.1 x27.2.2.2.1 x27.2.2.2.2.1 x27.2.1 x27.2.2.2.2.2.1).map iv), .cells b3 26 [.int .i64 x27.1, x27.2.2.1], .row x27.2.2.2.2.2.2 3 1 ((x27.2.2.2.2.2.1).map iv), .row x27.2.2.1 50 2 ((x27.2.1).map bv), .ro vb 1 (xb.map yv)]) _ ⟨0, rfl, ?_, rfl, rfl⟩ ?_ ?_ ?_
      · first | omega | trivial | (refine ⟨?_, ?_⟩ <;> first | omega | rfl | simp)
      · exact (Sub.consE rfl (by first | rfl | (congr 1; omega) | (simp; done)) (Sub.consE rfl (by first | rfl | (congr 1; omega) | (simp; done)) (Sub.consE rfl (by first | rfl | (congr 1; omega) | (simp; done)) (Sub.consE rfl (by first | rfl | (congr 1; omega) | (simp; done)) (Sub.consE rfl (by first | rfl | (congr 1; omega) | (simp; done)) (Sub.consE rfl (by first | rfl | (congr 1; omega) | (simp; done)) .nil))))))
      · exact (SubM.row rfl rfl (by first | rfl | (simp [iv, bv, yv, tv, sv]; done)) (SubM.row rfl rfl (by first | rfl | (simp [iv, bv, yv, tv, sv]; done)) (SubM.cells rfl (by first | rfl | (simp; done)) (SubM.row rfl rfl (by first | rfl | (simp [iv, bv, yv, tv, sv]; done)) (SubM.row rfl rfl (by first | rfl | (simp [iv, bv, yv, tv, sv]; done)) (SubM.row rfl rfl (by first | rfl | (simp [iv, bv, yv, tv, sv]; done)) (SubM.cells rfl (by first | rfl | (simp; done)) (SubM.row rfl rfl (by first | rfl | (simp [iv, bv, yv, tv, sv]; done)) (SubM.row rfl rfl (by first | rfl | (simp [iv, bv, yv, tv, sv]; done)) (SubM.ro rfl (by first | rfl | (simp [iv, bv, yv, tv, sv]; done)) .nil))))))))))
      ·
       rintro g _ _ ⟨k, rfl, hI, rfl, rfl⟩
       refine J.seq ?_
       refine J.seq ?_
       refine J.reg ?_
       refine WL.rd (RD.move rfl) rfl rfl ?_
       refine WL.rd (RD.move rfl) rfl rfl ?_
       refine WL.rd (RD.lenR rfl) rfl rfl ?_
       refine WL.rd (RD.lss rfl rfl) rfl rfl ?_
       refine WL.nil ?_
       refine JE.seqN ?_
       refine J.condP rfl (fun hc168 => ?_) (fun hc168 => ?_)
       ·
        refine J.skip ?_
        refine JE.seqN ?_
        refine J.seq ?_
        refine J.block ?_
        refine J.seq ?_
        refine J.anyAll [] ?_
        refine WA.take 0 rfl (RD.loadA rfl rfl) rfl (by kernel_rfl) rfl ?_
        refine WA.takeP 1 rfl (RDP.of fun _ => RD.move rfl) rfl (by kernel_rfl) rfl ?_
        refine WA.takeP 2 rfl (RDP.of fun _ => RD.move rfl) rfl (by kernel_rfl) rfl ?_
        refine WA.takeP 4 rfl (RDP.of fun _ => RD.move rfl) rfl (by kernel_rfl) rfl ?_
        refine WA.takeP 5 rfl (RDP.of fun _ => RD.move rfl) rfl (by kernel_rfl) rfl ?_
        refine WA.takeP 6 rfl (RDP.idx rfl rfl (by omega) rfl) rfl (by kernel_rfl) rfl ?_
        refine WA.take 7 rfl (RD.loadE rfl (by omega) rfl) rfl (by kernel_rfl) rfl ?_
        refine WA.one (i := 3) (by kernel_rfl) ?_
        refine WAi.efS rfl (EF.callN (.cons rfl (.cons rfl (.cons rfl .nil))) (fun w hS => sBridgesOf_c _ _ _ _ _ _ (by exact RdI.rd hS) (by first | assumption | (constructor <;> decide) | omega) (by first | assumption | (constructor <;> decide) | omega) (by omega))) rfl rfl (fun _ => SubI.sub) ?_
        rintro v174 -
        refine WA.one (i := 8) (by kernel_rfl) ?_
        refine WAi.efS rfl (EF.callS (.cons rfl (.cons rfl .nil)) (fun w hS => has_c _ _ _ _ (by exact RdI.rd hS))) rfl rfl (fun _ => SubI.sub) ?_
        rintro ⟨⟩ -
        refine WA.done (by kernel_rfl) ?_
        refine JE.seqN ?_
        refine J.condP rfl (fun hc179 => ?_) (fun hc179 => ?_)
        ·
         exfalso
         exact cir_br _ (getDm (by omega)) hc179
        ·
         refine J.skip ?_
         refine JE.blockN ?_
         refine JE.seqN ?_
         refine J.reg ?_
         refine WL.rd (RD.move rfl) rfl rfl ?_
         refine WL.rd (RD.add rfl rfl (by omega) (by omega)) rfl rfl ?_
         refine WL.rd (RD.assign rfl) rfl rfl ?_
         refine WL.nil ?_
         refine JE.cutN ⟨_, ?_, k + 1, rfl, ?_, rfl, rfl⟩ ?_ ?_
         · omega
         · trivial
         · exact (Sub.consE rfl (by first | rfl | (congr 1; omega) | (simp; done)) (Sub.consE rfl (by first | rfl | (congr 1; omega) | (simp; done)) (Sub.consE rfl (by first | rfl | (congr 1; omega) | (simp; done)) (Sub.consE rfl (by first | rfl | (congr 1; omega) | (simp; done)) (Sub.consE rfl (by first | rfl | (congr 1; omega) | (simp; done)) (Sub.consE rfl (by first | rfl | (congr 1; omega) | (simp; done)) .nil))))))
         · exact (SubM.row rfl rfl (by first | rfl | (simp [iv, bv, yv, tv, sv]; done)) (SubM.row rfl rfl (by first | rfl | (simp [iv, bv, yv, tv, sv]; done)) (SubM.cells rfl (by first | rfl | (simp; done)) (SubM.row rfl rfl (by first | rfl | (simp [iv, bv, yv, tv, sv]; done)) (SubM.row rfl rfl (by first | rfl | (simp [iv, bv, yv, tv, sv]; done)) (SubM.row rfl rfl (by first | rfl | (simp [iv, bv, yv, tv, sv]; done)) (SubM.cells rfl (by first | rfl | (simp; done)) (SubM.row rfl rfl (by first | rfl | (simp [iv, bv, yv, tv, sv]; done)) (SubM.row rfl rfl (by first | rfl | (simp [iv, bv, yv, tv, sv]; done)) (SubM.ro rfl (by first | rfl | (simp [iv, bv, yv, tv, sv]; done)) .nil))))))))))
       ·
        refine J.exit ?_
        refine JE.seqX ?_
        refine JE.cutX ?_
        refine JE.blockHit ?_
        refine JE.seqN ?_
        refine J.seq ?_
        refine J.reg ?_
        refine WL.rd (RD.move rfl) rfl rfl ?_
        refine WL.efS (EF.callN (.cons rfl .nil) (fun w hS => DrawIsCircuit_c vb xb _ (by exact RdI.rd hS) (by omega))) rfl rfl ?_
        rintro x182 hx182
        have hk182 : (-9223372036854775808 ≤ x182.2.2.2.1 ∧ x182.2.2.2.1 ≤ 9223372036854775807) := by omega
        have hl182 : (-9223372036854775808 ≤ x182.2.2.2.2.1 ∧ x182.2.2.2.2.1 ≤ 9223372036854775807) := by omega
        refine WL.rd (RD.move rfl) rfl rfl ?_
        refine WL.rd (RD.extract rfl rfl) rfl rfl ?_
        refine WL.rd (RD.extract rfl rfl) rfl rfl ?_
        refine WL.rd (RD.extract rfl rfl) rfl rfl ?_
        refine WL.rd (RD.extract rfl rfl) rfl rfl ?_
        refine WL.efS (EF.allocA) rfl rfl ?_
        intro b19 _
        refine WL.efN (EF.storeA rfl rfl rfl rfl) rfl ?_
        rintro ⟨⟩ -
        refine WL.rd (RD.assign rfl) rfl rfl ?_
        refine WL.rd (RD.assign rfl) rfl rfl ?_
        refine WL.rd (RD.assign rfl) rfl rfl ?_
        refine WL.nil ?_
        refine JE.seqN ?_
        refine J.seq ?_
        refine J.anyAll [] ?_
        refine WA.take 0 rfl (RD.loadA rfl rfl) rfl (by kernel_rfl) rfl ?_
        refine WA.takeP 1 rfl (RDP.of fun _ => RD.move rfl) rfl (by kernel_rfl) rfl ?_
        refine WA.takeP 2 rfl (RDP.of fun _ => RD.move rfl) rfl (by kernel_rfl) rfl ?_
        refine WA.takeP 3 rfl (RDP.of fun _ => RD.move rfl) rfl (by kernel_rfl) rfl ?_
        refine WA.take 5 rfl (RD.loadA rfl rfl) rfl (by kernel_rfl) rfl ?_
        refine WA.takeP 6 rfl (RDP.of fun _ => RD.move rfl) rfl (by kernel_rfl) rfl ?_
        refine WA.takeP 7 rfl (RDP.of fun _ => RD.move rfl) rfl (by kernel_rfl) rfl ?_
        refine WA.takeP 8 rfl (RDP.of fun _ => RD.move rfl) rfl (by kernel_rfl) rfl ?_
        refine WA.one (i := 4) (by kernel_rfl) ?_
        refine WAi.efS rfl (EF.callS (.cons rfl (.cons rfl (.cons rfl (.cons rfl .nil)))) (fun w hS => iIsCircuit_c _ _ _ _ _ _ _ _ (by exact RdI.rd hS) (by first | assumption | (constructor <;> decide) | omega) (by first | assumption | (constructor <;> decide) | omega) (by exact RdI.rd hS) (by omega) (by omega))) rfl rfl (fun _ => SubI.sub) ?_
        rintro ⟨⟩ -
        refine WA.one (i := 9) (by kernel_rfl) ?_
        refine WAi.efS rfl (EF.callS (.cons rfl (.cons rfl (.cons rfl (.cons rfl .nil)))) (fun w hS => sIsCircuit_c _ _ _ _ _ _ _ _ (by exact RdI.rd hS) (by first | assumption | (constructor <;> decide) | omega) (by first | assumption | (constructor <;> decide) | omega) (by exact RdI.rd hS) (by omega) (by omega))) rfl rfl (fun _ => SubI.sub) ?_
        rintro ⟨⟩ -
        refine WA.takeP 10 rfl (RDP.of fun _ => RD.eqlB rfl rfl) rfl (by kernel_rfl) rfl ?_
        refine WA.takeP 11 rfl (RDP.of fun _ => RD.assign rfl) rfl (by kernel_rfl) rfl ?_
        refine WA.done (by kernel_rfl) ?_
        refine JE.seqN ?_
        refine J.ret ?_
        refine JE.ret rfl (.tmp rfl .nil) (fun w hS => ?_)
        first | exact CS.fin hS rfl | (exfalso; omega) | exact CS.fin hS (by simp_all [mkRes])

end Go.Proofs.Ytlcijjkbgcllfaa
