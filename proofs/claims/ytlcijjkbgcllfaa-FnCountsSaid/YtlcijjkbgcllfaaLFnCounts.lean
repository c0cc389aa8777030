/- Contracts of functions of the program, each walked once; written by a program of our own. -/
import Derived.Test.YtlcijjkbgcllfaaDcC
import Derived.Test.YtlcijjkbgcllfaaSo
namespace Go.Proofs.Ytlcijjkbgcllfaa
open Go Go.RowKit
set_option maxRecDepth 4000

set_option maxHeartbeats 8000000 in
theorem law_c (vb : Value) (xb : List UInt8) (w : World) (hr : Rd w vb 1 (xb.map yv)) :
    CS Try.prog 3 [vb] w (.bool true) := by
 refine calls_of_J (mu := (fun _ => False)) (m := [.ro vb 1 (xb.map yv)]) (e := [(0, vb)]) Try.func3 rfl rfl (.cons rfl .nil) (((St.init _ _).ro0 hr (by decide))) ?_
 refine J.seq ?_
 refine J.reg ?_
 refine WL.rd (RD.assign rfl) rfl rfl ?_
 refine WL.nil ?_
 refine JE.seqN ?_
 refine J.seq ?_
 refine J.seq ?_
 refine J.reg ?_
 refine WL.rd (RD.move rfl) rfl rfl ?_
 refine WL.efS (EF.callS (.cons rfl .nil) (fun w hS => big_c vb xb _ (by exact RdI.rd hS))) rfl rfl ?_
 rintro ⟨⟩ -
 refine WL.nil ?_
 refine JE.seqN ?_
 refine J.condP rfl (fun hc18 => ?_) (fun hc18 => ?_)
 ·
  refine J.seq ?_
  refine J.reg ?_
  refine WL.rd (RD.assign rfl) rfl rfl ?_
  refine WL.nil ?_
  refine JE.seqN ?_
  refine J.ret ?_
  refine JE.ret rfl (.tmp rfl .nil) (fun w hS => ?_)
  first | exact CS.fin hS rfl | (exfalso; omega) | exact CS.fin hS (by simp_all [mkRes])
 ·
  have hlb : xb.length ≤ 1048576 := by omega
  refine J.skip ?_
  refine JE.seqN ?_
  refine J.seq ?_
  refine J.reg ?_
  refine WL.rd (RD.move rfl) rfl rfl ?_
  refine WL.efS (EF.callN (.cons rfl .nil) (fun w hS => DrawIsSparse_c vb xb _ (by exact RdI.rd hS) (by omega))) rfl rfl ?_
  rintro x21 hx21
  have hk21 : (-9223372036854775808 ≤ x21.2.2.2.1 ∧ x21.2.2.2.1 ≤ 9223372036854775807) := by omega
  have hl21 : (-9223372036854775808 ≤ x21.2.2.2.2 ∧ x21.2.2.2.2 ≤ 9223372036854775807) := by omega
  refine WL.rd (RD.move rfl) rfl rfl ?_
  refine WL.rd (RD.extract rfl rfl) rfl rfl ?_
  refine WL.rd (RD.extract rfl rfl) rfl rfl ?_
  refine WL.rd (RD.extract rfl rfl) rfl rfl ?_
  refine WL.efS (EF.allocA) rfl rfl ?_
  intro b3 _
  refine WL.efN (EF.storeA rfl rfl rfl rfl) rfl ?_
  rintro ⟨⟩ -
  refine WL.rd (RD.assign rfl) rfl rfl ?_
  refine WL.rd (RD.assign rfl) rfl rfl ?_
  refine WL.nil ?_
  refine JE.seqN ?_
  refine J.seq ?_
  refine J.reg ?_
  refine WL.rd (RD.loadA rfl rfl) rfl rfl ?_
  refine WL.rd (RD.move rfl) rfl rfl ?_
  refine WL.rd (RD.move rfl) rfl rfl ?_
  refine WL.efS (EF.callN (.cons rfl (.cons rfl (.cons rfl .nil))) (fun w hS => iOver_c _ _ _ _ _ _ (by exact RdI.rd hS) (by assumption) (by assumption))) rfl rfl ?_
  rintro v29 -
  refine WL.rd (RD.move rfl) rfl rfl ?_
  refine WL.rd (RD.extract rfl rfl) rfl rfl ?_
  refine WL.rd (RD.extract rfl rfl) rfl rfl ?_
  refine WL.rd (RD.assign rfl) rfl rfl ?_
  refine WL.rd (RD.assign rfl) rfl rfl ?_
  refine WL.nil ?_
  refine JE.seqN ?_
  refine J.seq ?_
  refine J.reg ?_
  refine WL.rd (RD.loadA rfl rfl) rfl rfl ?_
  refine WL.rd (RD.move rfl) rfl rfl ?_
  refine WL.rd (RD.move rfl) rfl rfl ?_
  refine WL.efS (EF.callN (.cons rfl (.cons rfl (.cons rfl .nil))) (fun w hS => sOver_c _ _ _ _ _ _ (by exact RdI.rd hS) (by assumption) (by assumption))) rfl rfl ?_
  rintro v36 -
  refine WL.rd (RD.move rfl) rfl rfl ?_
  refine WL.rd (RD.extract rfl rfl) rfl rfl ?_
  refine WL.rd (RD.extract rfl rfl) rfl rfl ?_
  refine WL.rd (RD.assign rfl) rfl rfl ?_
  refine WL.rd (RD.assign rfl) rfl rfl ?_
  refine WL.nil ?_
  refine JE.seqN ?_
  refine J.seq ?_
  refine J.reg ?_
  refine WL.rd (RD.loadA rfl rfl) rfl rfl ?_
  refine WL.rd (RD.move rfl) rfl rfl ?_
  refine WL.rd (RD.move rfl) rfl rfl ?_
  refine WL.efS (EF.callS (.cons rfl (.cons rfl (.cons rfl .nil))) (fun w hS => iIsSparse_c _ _ _ _ _ _ (by exact RdI.rd hS) (by assumption) (by assumption))) rfl rfl ?_
  rintro ⟨⟩ -
  refine WL.rd (RD.assign rfl) rfl rfl ?_
  refine WL.nil ?_
  refine JE.seqN ?_
  refine J.cut (fun ee mm => ((True)) ∧ ee = [(0, vb), (3, .pointer (some ⟨b3, 0, none⟩)), (4, .int .i64 x21.2.2.2.1), (5, .int .i64 x21.2.2.2.2), (7, .bool (ovI x21.1 x21.2.2.2.1 x21.2.2.2.2 x21.2.1).isSome), (8, v36), (10, .bool (decide ((isG x21.1 x21.2.1 ∧ (1 ≤ x21.2.2.2.1 ∧ x21.2.2.2.1 ≤ 3 ∧ 0 ≤ x21.2.2.2.2 ∧ x21.2.2.2.2 < 2 * x21.2.2.2.1)) ∧ ovI x21.1 x21.2.2.2.1 x21.2.2.2.2 x21.2.1 = none)))] ∧ mm = [.row v36 3 1 ((ovL x21.1 x21.2.2.2.1 x21.2.2.2.2 x21.2.1).map iv), .row v29 3 1 ((ovL x21.1 x21.2.2.2.1 x21.2.2.2.2 x21.2.1).map iv), .cells b3 26 [.int .i64 x21.1, x21.2.2.1], .row x21.2.2.1 50 2 ((x21.2.1).map bv), .ro vb 1 (xb.map yv)]) ?_ ?_
  ·
   refine J.seq ?_
   refine J.anyAll [] ?_
   refine WA.takeP 0 rfl (RDP.of fun _ => RD.move rfl) rfl (by kernel_rfl) rfl ?_
   refine WA.takeP 1 rfl (RDP.of fun _ => RD.move rfl) rfl (by kernel_rfl) rfl ?_
   refine WA.takeP 2 rfl (RDP.of fun _ => RD.neqB rfl rfl) rfl (by kernel_rfl) rfl ?_
   refine WA.takeP 3 rfl (RDP.of fun _ => RD.move rfl) rfl (by kernel_rfl) rfl ?_
   refine WA.case 46 rfl (fun hg46 => ?_) (fun hg46 => ?_)
   ·
    refine WA.no 4 rfl rfl (by kernel_rfl) rfl ?_
    refine WA.no 5 rfl rfl (by kernel_rfl) rfl ?_
    refine WA.no 6 rfl rfl (by kernel_rfl) rfl ?_
    refine WA.no 7 rfl rfl (by kernel_rfl) rfl ?_
    refine WA.takeP 8 rfl (RDP.of fun _ => RD.pickT rfl rfl) rfl (by kernel_rfl) rfl ?_
    refine WA.takeP 9 rfl (RDP.of fun _ => RD.move rfl) rfl (by kernel_rfl) rfl ?_
    refine WA.no 10 rfl rfl (by kernel_rfl) rfl ?_
    refine WA.no 11 rfl rfl (by kernel_rfl) rfl ?_
    refine WA.no 12 rfl rfl (by kernel_rfl) rfl ?_
    refine WA.no 13 rfl rfl (by kernel_rfl) rfl ?_
    refine WA.no 14 rfl rfl (by kernel_rfl) rfl ?_
    refine WA.no 15 rfl rfl (by kernel_rfl) rfl ?_
    refine WA.takeP 16 rfl (RDP.of fun _ => RD.pickT rfl rfl) rfl (by kernel_rfl) rfl ?_
    refine WA.takeP 17 rfl (RDP.of fun _ => RD.move rfl) rfl (by kernel_rfl) rfl ?_
    refine WA.no 18 rfl rfl (by kernel_rfl) rfl ?_
    refine WA.no 19 rfl rfl (by kernel_rfl) rfl ?_
    refine WA.no 20 rfl rfl (by kernel_rfl) rfl ?_
    refine WA.no 21 rfl rfl (by kernel_rfl) rfl ?_
    refine WA.takeP 22 rfl (RDP.of fun _ => RD.pickT rfl rfl) rfl (by kernel_rfl) rfl ?_
    refine WA.takeP 23 rfl (RDP.of fun _ => RD.move rfl) rfl (by kernel_rfl) rfl ?_
    refine WA.no 24 rfl rfl (by kernel_rfl) rfl ?_
    refine WA.no 25 rfl rfl (by kernel_rfl) rfl ?_
    refine WA.no 26 rfl rfl (by kernel_rfl) rfl ?_
    refine WA.no 27 rfl rfl (by kernel_rfl) rfl ?_
    refine WA.no 28 rfl rfl (by kernel_rfl) rfl ?_
    refine WA.no 29 rfl rfl (by kernel_rfl) rfl ?_
    refine WA.no 30 rfl rfl (by kernel_rfl) rfl ?_
    refine WA.no 31 rfl rfl (by kernel_rfl) rfl ?_
    refine WA.no 32 rfl rfl (by kernel_rfl) rfl ?_
    refine WA.takeP 33 rfl (RDP.of fun _ => RD.pickT rfl rfl) rfl (by kernel_rfl) rfl ?_
    refine WA.takeP 34 rfl (RDP.of fun _ => RD.move rfl) rfl (by kernel_rfl) rfl ?_
    refine WA.no 35 rfl rfl (by kernel_rfl) rfl ?_
    refine WA.no 36 rfl rfl (by kernel_rfl) rfl ?_
    refine WA.no 37 rfl rfl (by kernel_rfl) rfl ?_
    refine WA.no 38 rfl rfl (by kernel_rfl) rfl ?_
    refine WA.no 39 rfl rfl (by kernel_rfl) rfl ?_
    refine WA.no 40 rfl rfl (by kernel_rfl) rfl ?_
    refine WA.no 41 rfl rfl (by kernel_rfl) rfl ?_
    refine WA.no 42 rfl rfl (by kernel_rfl) rfl ?_
    refine WA.no 43 rfl rfl (by kernel_rfl) rfl ?_
    refine WA.takeP 44 rfl (RDP.of fun _ => RD.pickT rfl rfl) rfl (by kernel_rfl) rfl ?_
    refine WA.done (by kernel_rfl) ?_
    refine JE.seqN ?_
    refine J.condT rfl ?_
    refine J.seq ?_
    refine J.reg ?_
    refine WL.rd (RD.assign rfl) rfl rfl ?_
    refine WL.nil ?_
    refine JE.seqN ?_
    refine J.ret ?_
    refine JE.ret rfl (.tmp rfl .nil) (fun w hS => ?_)
    first | exact CS.fin hS rfl | (exfalso; omega) | exact CS.fin hS (by simp_all [mkRes])
   ·
    refine WA.takeP 4 rfl (RDP.of fun _ => RD.move rfl) rfl (by kernel_rfl) rfl ?_
    refine WA.takeP 5 rfl (RDP.of fun _ => RD.move rfl) rfl (by kernel_rfl) rfl ?_
    refine WA.one (i := 6) (by kernel_rfl) ?_
    refine WAi.efS rfl (EF.callS (.cons rfl (.cons rfl .nil)) (fun w hS => sameInts_c _ _ _ _ _ (by exact RdI.rd hS) (by exact RdI.rd hS))) rfl rfl (fun _ => SubI.sub) ?_
    rintro ⟨⟩ -
    refine WA.takeP 7 rfl (RDP.of fun _ => RD.notP rfl) rfl (by kernel_rfl) rfl ?_
    refine WA.takeP 8 rfl (RDP.of fun _ => RD.pickF rfl rfl) rfl (by kernel_rfl) rfl ?_
    refine WA.takeP 9 rfl (RDP.of fun _ => RD.move rfl) rfl (by kernel_rfl) rfl ?_
    refine WA.caseP 52 rfl (fun hg52 => ?_) (fun hg52 => ?_)
    ·
     refine WA.no 10 rfl rfl (by kernel_rfl) rfl ?_
     refine WA.no 11 rfl rfl (by kernel_rfl) rfl ?_
     refine WA.no 12 rfl rfl (by kernel_rfl) rfl ?_
     refine WA.no 13 rfl rfl (by kernel_rfl) rfl ?_
     refine WA.no 14 rfl rfl (by kernel_rfl) rfl ?_
     refine WA.no 15 rfl rfl (by kernel_rfl) rfl ?_
     refine WA.takeP 16 rfl (RDP.of fun _ => RD.pickT rfl rfl) rfl (by kernel_rfl) rfl ?_
     refine WA.takeP 17 rfl (RDP.of fun _ => RD.move rfl) rfl (by kernel_rfl) rfl ?_
     refine WA.no 18 rfl rfl (by kernel_rfl) rfl ?_
     refine WA.no 19 rfl rfl (by kernel_rfl) rfl ?_
     refine WA.no 20 rfl rfl (by kernel_rfl) rfl ?_
     refine WA.no 21 rfl rfl (by kernel_rfl) rfl ?_
     refine WA.takeP 22 rfl (RDP.of fun _ => RD.pickT rfl rfl) rfl (by kernel_rfl) rfl ?_
     refine WA.takeP 23 rfl (RDP.of fun _ => RD.move rfl) rfl (by kernel_rfl) rfl ?_
     refine WA.no 24 rfl rfl (by kernel_rfl) rfl ?_
     refine WA.no 25 rfl rfl (by kernel_rfl) rfl ?_
     refine WA.no 26 rfl rfl (by kernel_rfl) rfl ?_
     refine WA.no 27 rfl rfl (by kernel_rfl) rfl ?_
     refine WA.no 28 rfl rfl (by kernel_rfl) rfl ?_
     refine WA.no 29 rfl rfl (by kernel_rfl) rfl ?_
     refine WA.no 30 rfl rfl (by kernel_rfl) rfl ?_
     refine WA.no 31 rfl rfl (by kernel_rfl) rfl ?_
     refine WA.no 32 rfl rfl (by kernel_rfl) rfl ?_
     refine WA.takeP 33 rfl (RDP.of fun _ => RD.pickT rfl rfl) rfl (by kernel_rfl) rfl ?_
     refine WA.takeP 34 rfl (RDP.of fun _ => RD.move rfl) rfl (by kernel_rfl) rfl ?_
     refine WA.no 35 rfl rfl (by kernel_rfl) rfl ?_
     refine WA.no 36 rfl rfl (by kernel_rfl) rfl ?_
     refine WA.no 37 rfl rfl (by kernel_rfl) rfl ?_
     refine WA.no 38 rfl rfl (by kernel_rfl) rfl ?_
     refine WA.no 39 rfl rfl (by kernel_rfl) rfl ?_
     refine WA.no 40 rfl rfl (by kernel_rfl) rfl ?_
     refine WA.no 41 rfl rfl (by kernel_rfl) rfl ?_
     refine WA.no 42 rfl rfl (by kernel_rfl) rfl ?_
     refine WA.no 43 rfl rfl (by kernel_rfl) rfl ?_
     refine WA.takeP 44 rfl (RDP.of fun _ => RD.pickT rfl rfl) rfl (by kernel_rfl) rfl ?_
     refine WA.done (by kernel_rfl) ?_
     refine JE.seqN ?_
     refine J.condT rfl ?_
     refine J.seq ?_
     refine J.reg ?_
     refine WL.rd (RD.assign rfl) rfl rfl ?_
     refine WL.nil ?_
     refine JE.seqN ?_
     refine J.ret ?_
     refine JE.ret rfl (.tmp rfl .nil) (fun w hS => ?_)
     first | exact CS.fin hS rfl | (exfalso; omega) | exact CS.fin hS (by simp_all [mkRes])
    ·
     refine WA.takeP 10 rfl (RDP.of fun _ => RD.move rfl) rfl (by kernel_rfl) rfl ?_
     refine WA.take 11 rfl (RD.loadA rfl rfl) rfl (by kernel_rfl) rfl ?_
     refine WA.takeP 12 rfl (RDP.of fun _ => RD.move rfl) rfl (by kernel_rfl) rfl ?_
     refine WA.takeP 13 rfl (RDP.of fun _ => RD.move rfl) rfl (by kernel_rfl) rfl ?_
     refine WA.one (i := 14) (by kernel_rfl) ?_
     refine WAi.efS rfl (EF.callS (.cons rfl (.cons rfl (.cons rfl .nil))) (fun w hS => sIsSparse_c _ _ _ _ _ _ (by exact RdI.rd hS) (by assumption) (by assumption))) rfl rfl (fun _ => SubI.sub) ?_
     rintro ⟨⟩ -
     refine WA.takeP 15 rfl (RDP.of fun _ => RD.neqB rfl rfl) rfl (by kernel_rfl) rfl ?_
     refine WA.takeP 16 rfl (RDP.of fun _ => RD.pickF rfl rfl) rfl (by kernel_rfl) rfl ?_
     refine WA.takeP 17 rfl (RDP.of fun _ => RD.move rfl) rfl (by kernel_rfl) rfl ?_
     refine WA.case 60 rfl (fun hg60 => ?_) (fun hg60 => ?_)
     ·
      refine WA.no 18 rfl rfl (by kernel_rfl) rfl ?_
      refine WA.no 19 rfl rfl (by kernel_rfl) rfl ?_
      refine WA.no 20 rfl rfl (by kernel_rfl) rfl ?_
      refine WA.no 21 rfl rfl (by kernel_rfl) rfl ?_
      refine WA.takeP 22 rfl (RDP.of fun _ => RD.pickT rfl rfl) rfl (by kernel_rfl) rfl ?_
      refine WA.takeP 23 rfl (RDP.of fun _ => RD.move rfl) rfl (by kernel_rfl) rfl ?_
      refine WA.no 24 rfl rfl (by kernel_rfl) rfl ?_
      refine WA.no 25 rfl rfl (by kernel_rfl) rfl ?_
      refine WA.no 26 rfl rfl (by kernel_rfl) rfl ?_
      refine WA.no 27 rfl rfl (by kernel_rfl) rfl ?_
      refine WA.no 28 rfl rfl (by kernel_rfl) rfl ?_
      refine WA.no 29 rfl rfl (by kernel_rfl) rfl ?_
      refine WA.no 30 rfl rfl (by kernel_rfl) rfl ?_
      refine WA.no 31 rfl rfl (by kernel_rfl) rfl ?_
      refine WA.no 32 rfl rfl (by kernel_rfl) rfl ?_
      refine WA.takeP 33 rfl (RDP.of fun _ => RD.pickT rfl rfl) rfl (by kernel_rfl) rfl ?_
      refine WA.takeP 34 rfl (RDP.of fun _ => RD.move rfl) rfl (by kernel_rfl) rfl ?_
      refine WA.no 35 rfl rfl (by kernel_rfl) rfl ?_
      refine WA.no 36 rfl rfl (by kernel_rfl) rfl ?_
      refine WA.no 37 rfl rfl (by kernel_rfl) rfl ?_
      refine WA.no 38 rfl rfl (by kernel_rfl) rfl ?_
      refine WA.no 39 rfl rfl (by kernel_rfl) rfl ?_
      refine WA.no 40 rfl rfl (by kernel_rfl) rfl ?_
      refine WA.no 41 rfl rfl (by kernel_rfl) rfl ?_
      refine WA.no 42 rfl rfl (by kernel_rfl) rfl ?_
      refine WA.no 43 rfl rfl (by kernel_rfl) rfl ?_
      refine WA.takeP 44 rfl (RDP.of fun _ => RD.pickT rfl rfl) rfl (by kernel_rfl) rfl ?_
      refine WA.done (by kernel_rfl) ?_
      refine JE.seqN ?_
      refine J.condT rfl ?_
      refine J.seq ?_
      refine J.reg ?_
      refine WL.rd (RD.assign rfl) rfl rfl ?_
      refine WL.nil ?_
      refine JE.seqN ?_
      refine J.ret ?_
      refine JE.ret rfl (.tmp rfl .nil) (fun w hS => ?_)
      first | exact CS.fin hS rfl | (exfalso; omega) | exact CS.fin hS (by simp_all [mkRes])
     ·
      refine WA.takeP 18 rfl (RDP.of fun _ => RD.move rfl) rfl (by kernel_rfl) rfl ?_
      refine WA.takeP 19 rfl (RDP.of fun _ => RD.move rfl) rfl (by kernel_rfl) rfl ?_
      refine WA.case 62 rfl (fun hg62 => ?_) (fun hg62 => ?_)
      ·
       refine WA.takeP 20 rfl (RDP.of fun _ => RD.move rfl) rfl (by kernel_rfl) rfl ?_
       refine WA.takeP 21 rfl (RDP.of fun _ => RD.pickT rfl rfl) rfl (by kernel_rfl) rfl ?_
       refine WA.takeP 22 rfl (RDP.of fun _ => RD.pickF rfl rfl) rfl (by kernel_rfl) rfl ?_
       refine WA.takeP 23 rfl (RDP.of fun _ => RD.move rfl) rfl (by kernel_rfl) rfl ?_
       refine WA.caseP 66 rfl (fun hg66 => ?_) (fun hg66 => ?_)
       ·
        refine WA.no 24 rfl rfl (by kernel_rfl) rfl ?_
        refine WA.no 25 rfl rfl (by kernel_rfl) rfl ?_
        refine WA.no 26 rfl rfl (by kernel_rfl) rfl ?_
        refine WA.no 27 rfl rfl (by kernel_rfl) rfl ?_
        refine WA.no 28 rfl rfl (by kernel_rfl) rfl ?_
        refine WA.no 29 rfl rfl (by kernel_rfl) rfl ?_
        refine WA.no 30 rfl rfl (by kernel_rfl) rfl ?_
        refine WA.no 31 rfl rfl (by kernel_rfl) rfl ?_
        refine WA.no 32 rfl rfl (by kernel_rfl) rfl ?_
        refine WA.takeP 33 rfl (RDP.of fun _ => RD.pickT rfl rfl) rfl (by kernel_rfl) rfl ?_
        refine WA.takeP 34 rfl (RDP.of fun _ => RD.move rfl) rfl (by kernel_rfl) rfl ?_
        refine WA.no 35 rfl rfl (by kernel_rfl) rfl ?_
        refine WA.no 36 rfl rfl (by kernel_rfl) rfl ?_
        refine WA.no 37 rfl rfl (by kernel_rfl) rfl ?_
        refine WA.no 38 rfl rfl (by kernel_rfl) rfl ?_
        refine WA.no 39 rfl rfl (by kernel_rfl) rfl ?_
        refine WA.no 40 rfl rfl (by kernel_rfl) rfl ?_
        refine WA.no 41 rfl rfl (by kernel_rfl) rfl ?_
        refine WA.no 42 rfl rfl (by kernel_rfl) rfl ?_
        refine WA.no 43 rfl rfl (by kernel_rfl) rfl ?_
        refine WA.takeP 44 rfl (RDP.of fun _ => RD.pickT rfl rfl) rfl (by kernel_rfl) rfl ?_
        refine WA.done (by kernel_rfl) ?_
        refine JE.seqN ?_
        refine J.condT rfl ?_
        refine J.seq ?_
        refine J.reg ?_
        refine WL.rd (RD.assign rfl) rfl rfl ?_
        refine WL.nil ?_
        refine JE.seqN ?_
        refine J.ret ?_
        refine JE.ret rfl (.tmp rfl .nil) (fun w hS => ?_)
        first | exact CS.fin hS rfl | (exfalso; omega) | exact CS.fin hS (by simp_all [mkRes])
       ·
        refine WA.take 24 rfl (RD.loadA rfl rfl) rfl (by kernel_rfl) rfl ?_
        refine WA.takeP 25 rfl (RDP.of fun _ => RD.move rfl) rfl (by kernel_rfl) rfl ?_
        refine WA.takeP 26 rfl (RDP.of fun _ => RD.move rfl) rfl (by kernel_rfl) rfl ?_
        refine WA.take 28 rfl (RD.loadA rfl rfl) rfl (by kernel_rfl) rfl ?_
        refine WA.takeP 29 rfl (RDP.of fun _ => RD.move rfl) rfl (by kernel_rfl) rfl ?_
        refine WA.takeP 30 rfl (RDP.of fun _ => RD.move rfl) rfl (by kernel_rfl) rfl ?_
        refine WA.one (i := 27) (by kernel_rfl) ?_
        refine WAi.efS rfl (EF.callS (.cons rfl (.cons rfl (.cons rfl .nil))) (fun w hS => iIsTight_c _ _ _ _ _ _ (by exact RdI.rd hS) (by assumption) (by assumption))) rfl rfl (fun _ => SubI.sub) ?_
        rintro ⟨⟩ -
        refine WA.one (i := 31) (by kernel_rfl) ?_
        refine WAi.efS rfl (EF.callS (.cons rfl (.cons rfl (.cons rfl .nil))) (fun w hS => sIsTight_c _ _ _ _ _ _ (by exact RdI.rd hS) (by assumption) (by assumption))) rfl rfl (fun _ => SubI.sub) ?_
        rintro ⟨⟩ -
        refine WA.takeP 32 rfl (RDP.of fun _ => RD.neqB rfl rfl) rfl (by kernel_rfl) rfl ?_
        refine WA.takeP 33 rfl (RDP.of fun _ => RD.pickF rfl rfl) rfl (by kernel_rfl) rfl ?_
        refine WA.takeP 34 rfl (RDP.of fun _ => RD.move rfl) rfl (by kernel_rfl) rfl ?_
        refine WA.case 77 rfl (fun hg77 => ?_) (fun hg77 => ?_)
        ·
         refine WA.no 35 rfl rfl (by kernel_rfl) rfl ?_
         refine WA.no 36 rfl rfl (by kernel_rfl) rfl ?_
         refine WA.no 37 rfl rfl (by kernel_rfl) rfl ?_
         refine WA.no 38 rfl rfl (by kernel_rfl) rfl ?_
         refine WA.no 39 rfl rfl (by kernel_rfl) rfl ?_
         refine WA.no 40 rfl rfl (by kernel_rfl) rfl ?_
         refine WA.no 41 rfl rfl (by kernel_rfl) rfl ?_
         refine WA.no 42 rfl rfl (by kernel_rfl) rfl ?_
         refine WA.no 43 rfl rfl (by kernel_rfl) rfl ?_
         refine WA.takeP 44 rfl (RDP.of fun _ => RD.pickT rfl rfl) rfl (by kernel_rfl) rfl ?_
         refine WA.done (by kernel_rfl) ?_
         refine JE.seqN ?_
         refine J.condT rfl ?_
         refine J.seq ?_
         refine J.reg ?_
         refine WL.rd (RD.assign rfl) rfl rfl ?_
         refine WL.nil ?_
         refine JE.seqN ?_
         refine J.ret ?_
         refine JE.ret rfl (.tmp rfl .nil) (fun w hS => ?_)
         first | exact CS.fin hS rfl | (exfalso; omega) | exact CS.fin hS (by simp_all [mkRes])
        ·
         refine WA.take 35 rfl (RD.loadA rfl rfl) rfl (by kernel_rfl) rfl ?_
         refine WA.takeP 36 rfl (RDP.of fun _ => RD.move rfl) rfl (by kernel_rfl) rfl ?_
         refine WA.takeP 37 rfl (RDP.of fun _ => RD.move rfl) rfl (by kernel_rfl) rfl ?_
         refine WA.take 39 rfl (RD.loadA rfl rfl) rfl (by kernel_rfl) rfl ?_
         refine WA.takeP 40 rfl (RDP.of fun _ => RD.move rfl) rfl (by kernel_rfl) rfl ?_
         refine WA.takeP 41 rfl (RDP.of fun _ => RD.move rfl) rfl (by kernel_rfl) rfl ?_
         refine WA.one (i := 38) (by kernel_rfl) ?_
         refine WAi.efS rfl (EF.callS (.cons rfl (.cons rfl (.cons rfl .nil))) (fun w hS => iCountFreedom_c _ _ _ _ _ _ (by exact RdI.rd hS) (by assumption) (by assumption))) rfl rfl (fun _ => SubI.sub) ?_
         rintro ⟨⟩ -
         refine WA.one (i := 42) (by kernel_rfl) ?_
         refine WAi.efS rfl (EF.callS (.cons rfl (.cons rfl (.cons rfl .nil))) (fun w hS => sCountFreedom_c _ _ _ _ _ _ (by exact RdI.rd hS) (by assumption) (by assumption))) rfl rfl (fun _ => SubI.sub) ?_
         rintro ⟨⟩ -
         refine WA.takeP 43 rfl (RDP.of fun _ => RD.neq rfl rfl) rfl (by kernel_rfl) rfl ?_
         refine WA.takeP 44 rfl (RDP.of fun _ => RD.pickF rfl rfl) rfl (by kernel_rfl) rfl ?_
         refine WA.done (by kernel_rfl) ?_
         refine JE.seqN ?_
         refine J.condP rfl (fun hc87 => ?_) (fun hc87 => ?_)
         ·
          refine J.seq ?_
          refine J.reg ?_
          refine WL.rd (RD.assign rfl) rfl rfl ?_
          refine WL.nil ?_
          refine JE.seqN ?_
          refine J.ret ?_
          refine JE.ret rfl (.tmp rfl .nil) (fun w hS => ?_)
          first | exact CS.fin hS rfl | (exfalso; omega) | exact CS.fin hS (by simp_all [mkRes])
         ·
          refine J.skip ?_
          refine JE.cutN ⟨?_, rfl, rfl⟩ ?_ ?_
          · trivial
          · exact (Sub.consE rfl (by first | rfl | (congr 1; omega) | (simp; done)) (Sub.consE rfl (by first | rfl | (congr 1; omega) | (simp; done)) (Sub.consE rfl (by first | rfl | (congr 1; omega) | (simp; done)) (Sub.consE rfl (by first | rfl | (congr 1; omega) | (simp; done)) (Sub.consE rfl (by first | rfl | (congr 1; omega) | (simp; done)) (Sub.consE rfl (by first | rfl | (congr 1; omega) | (simp; done)) (Sub.consE rfl (by first | rfl | (congr 1; omega) | (simp; done)) .nil)))))))
          · exact (SubM.row rfl rfl (by first | rfl | (simp [iv, bv, yv, tv, sv]; done)) (SubM.row rfl rfl (by first | rfl | (simp [iv, bv, yv, tv, sv]; done)) (SubM.cells rfl (by first | rfl | (simp; done)) (SubM.row rfl rfl (by first | rfl | (simp [iv, bv, yv, tv, sv]; done)) (SubM.ro rfl (by first | rfl | (simp [iv, bv, yv, tv, sv]; done)) .nil)))))
      ·
       refine WA.no 20 rfl rfl (by kernel_rfl) rfl ?_
       refine WA.takeP 21 rfl (RDP.of fun _ => RD.pickF rfl rfl) rfl (by kernel_rfl) rfl ?_
       refine WA.takeP 22 rfl (RDP.of fun _ => RD.pickF rfl rfl) rfl (by kernel_rfl) rfl ?_
       refine WA.takeP 23 rfl (RDP.of fun _ => RD.move rfl) rfl (by kernel_rfl) rfl ?_
       refine WA.take 24 rfl (RD.loadA rfl rfl) rfl (by kernel_rfl) rfl ?_
       refine WA.takeP 25 rfl (RDP.of fun _ => RD.move rfl) rfl (by kernel_rfl) rfl ?_
       refine WA.takeP 26 rfl (RDP.of fun _ => RD.move rfl) rfl (by kernel_rfl) rfl ?_
       refine WA.take 28 rfl (RD.loadA rfl rfl) rfl (by kernel_rfl) rfl ?_
       refine WA.takeP 29 rfl (RDP.of fun _ => RD.move rfl) rfl (by kernel_rfl) rfl ?_
       refine WA.takeP 30 rfl (RDP.of fun _ => RD.move rfl) rfl (by kernel_rfl) rfl ?_
       refine WA.one (i := 27) (by kernel_rfl) ?_
       refine WAi.efS rfl (EF.callS (.cons rfl (.cons rfl (.cons rfl .nil))) (fun w hS => iIsTight_c _ _ _ _ _ _ (by exact RdI.rd hS) (by assumption) (by assumption))) rfl rfl (fun _ => SubI.sub) ?_
       rintro ⟨⟩ -
       refine WA.one (i := 31) (by kernel_rfl) ?_
       refine WAi.efS rfl (EF.callS (.cons rfl (.cons rfl (.cons rfl .nil))) (fun w hS => sIsTight_c _ _ _ _ _ _ (by exact RdI.rd hS) (by assumption) (by assumption))) rfl rfl (fun _ => SubI.sub) ?_
       rintro ⟨⟩ -
       refine WA.takeP 32 rfl (RDP.of fun _ => RD.neqB rfl rfl) rfl (by kernel_rfl) rfl ?_
       refine WA.takeP 33 rfl (RDP.of fun _ => RD.pickF rfl rfl) rfl (by kernel_rfl) rfl ?_
       refine WA.takeP 34 rfl (RDP.of fun _ => RD.move rfl) rfl (by kernel_rfl) rfl ?_
       refine WA.case 77 rfl (fun hg77 => ?_) (fun hg77 => ?_)
       ·
        refine WA.no 35 rfl rfl (by kernel_rfl) rfl ?_
        refine WA.no 36 rfl rfl (by kernel_rfl) rfl ?_
        refine WA.no 37 rfl rfl (by kernel_rfl) rfl ?_
        refine WA.no 38 rfl rfl (by kernel_rfl) rfl ?_
        refine WA.no 39 rfl rfl (by kernel_rfl) rfl ?_
        refine WA.no 40 rfl rfl (by kernel_rfl) rfl ?_
        refine WA.no 41 rfl rfl (by kernel_rfl) rfl ?_
        refine WA.no 42 rfl rfl (by kernel_rfl) rfl ?_
        refine WA.no 43 rfl rfl (by kernel_rfl) rfl ?_
        refine WA.takeP 44 rfl (RDP.of fun _ => RD.pickT rfl rfl) rfl (by kernel_rfl) rfl ?_
        refine WA.done (by kernel_rfl) ?_
        refine JE.seqN ?_
        refine J.condT rfl ?_
        refine J.seq ?_
        refine J.reg ?_
        refine WL.rd (RD.assign rfl) rfl rfl ?_
        refine WL.nil ?_
        refine JE.seqN ?_
        refine J.ret ?_
        refine JE.ret rfl (.tmp rfl .nil) (fun w hS => ?_)
        first | exact CS.fin hS rfl | (exfalso; omega) | exact CS.fin hS (by simp_all [mkRes])
       ·
        refine WA.take 35 rfl (RD.loadA rfl rfl) rfl (by kernel_rfl) rfl ?_
        refine WA.takeP 36 rfl (RDP.of fun _ => RD.move rfl) rfl (by kernel_rfl) rfl ?_
        refine WA.takeP 37 rfl (RDP.of fun _ => RD.move rfl) rfl (by kernel_rfl) rfl ?_
        refine WA.take 39 rfl (RD.loadA rfl rfl) rfl (by kernel_rfl) rfl ?_
        refine WA.takeP 40 rfl (RDP.of fun _ => RD.move rfl) rfl (by kernel_rfl) rfl ?_
        refine WA.takeP 41 rfl (RDP.of fun _ => RD.move rfl) rfl (by kernel_rfl) rfl ?_
        refine WA.one (i := 38) (by kernel_rfl) ?_
        refine WAi.efS rfl (EF.callS (.cons rfl (.cons rfl (.cons rfl .nil))) (fun w hS => iCountFreedom_c _ _ _ _ _ _ (by exact RdI.rd hS) (by assumption) (by assumption))) rfl rfl (fun _ => SubI.sub) ?_
        rintro ⟨⟩ -
        refine WA.one (i := 42) (by kernel_rfl) ?_
        refine WAi.efS rfl (EF.callS (.cons rfl (.cons rfl (.cons rfl .nil))) (fun w hS => sCountFreedom_c _ _ _ _ _ _ (by exact RdI.rd hS) (by assumption) (by assumption))) rfl rfl (fun _ => SubI.sub) ?_
        rintro ⟨⟩ -
        refine WA.takeP 43 rfl (RDP.of fun _ => RD.neq rfl rfl) rfl (by kernel_rfl) rfl ?_
        refine WA.takeP 44 rfl (RDP.of fun _ => RD.pickF rfl rfl) rfl (by kernel_rfl) rfl ?_
        refine WA.done (by kernel_rfl) ?_
        refine JE.seqN ?_
        refine J.condP rfl (fun hc87 => ?_) (fun hc87 => ?_)
        ·
         refine J.seq ?_
         refine J.reg ?_
         refine WL.rd (RD.assign rfl) rfl rfl ?_
         refine WL.nil ?_
         refine JE.seqN ?_
         refine J.ret ?_
         refine JE.ret rfl (.tmp rfl .nil) (fun w hS => ?_)
         first | exact CS.fin hS rfl | (exfalso; omega) | exact CS.fin hS (by simp_all [mkRes])
        ·
         refine J.skip ?_
         refine JE.cutN ⟨?_, rfl, rfl⟩ ?_ ?_
         · trivial
         · exact (Sub.consE rfl (by first | rfl | (congr 1; omega) | (simp; done)) (Sub.consE rfl (by first | rfl | (congr 1; omega) | (simp; done)) (Sub.consE rfl (by first | rfl | (congr 1; omega) | (simp; done)) (Sub.consE rfl (by first | rfl | (congr 1; omega) | (simp; done)) (Sub.consE rfl (by first | rfl | (congr 1; omega) | (simp; done)) (Sub.consE rfl (by first | rfl | (congr 1; omega) | (simp; done)) (Sub.consE rfl (by first | rfl | (congr 1; omega) | (simp; done)) .nil)))))))
         · exact (SubM.row rfl rfl (by first | rfl | (simp [iv, bv, yv, tv, sv]; done)) (SubM.row rfl rfl (by first | rfl | (simp [iv, bv, yv, tv, sv]; done)) (SubM.cells rfl (by first | rfl | (simp; done)) (SubM.row rfl rfl (by first | rfl | (simp [iv, bv, yv, tv, sv]; done)) (SubM.ro rfl (by first | rfl | (simp [iv, bv, yv, tv, sv]; done)) .nil)))))
  ·
   rintro _ _ ⟨-, rfl, rfl⟩
   refine J.cut (fun ee mm => ((True)) ∧ ee = [(0, vb), (3, .pointer (some ⟨b3, 0, none⟩)), (4, .int .i64 x21.2.2.2.1), (5, .int .i64 x21.2.2.2.2), (10, .bool (decide ((isG x21.1 x21.2.1 ∧ (1 ≤ x21.2.2.2.1 ∧ x21.2.2.2.1 ≤ 3 ∧ 0 ≤ x21.2.2.2.2 ∧ x21.2.2.2.2 < 2 * x21.2.2.2.1)) ∧ ovI x21.1 x21.2.2.2.1 x21.2.2.2.2 x21.2.1 = none)))] ∧ mm = [.row v36 3 1 ((ovL x21.1 x21.2.2.2.1 x21.2.2.2.2 x21.2.1).map iv), .row v29 3 1 ((ovL x21.1 x21.2.2.2.1 x21.2.2.2.2 x21.2.1).map iv), .cells b3 26 [.int .i64 x21.1, x21.2.2.1], .row x21.2.2.1 50 2 ((x21.2.1).map bv), .ro vb 1 (xb.map yv)]) ?_ ?_
   ·
    refine J.seq ?_
    refine J.reg ?_
    refine WL.rd (RD.move rfl) rfl rfl ?_
    refine WL.rd (RD.move rfl) rfl rfl ?_
    refine WL.case 89 rfl (fun hg89 => ?_) (fun hg89 => ?_)
    ·
     have hos := over_span hg89
     have hol := ovL_len x21.1 x21.2.2.2.1 x21.2.2.2.2 x21.2.1
     have hml := mul_small (k := x21.2.2.2.1) (n := (ovL x21.1 x21.2.2.2.1 x21.2.2.2.2 x21.2.1).length) (by omega) (by omega)
     refine WL.rd (RD.loadA rfl rfl) rfl rfl ?_
     refine WL.rd (RD.move rfl) rfl rfl ?_
     refine WL.efS (EF.callN (.cons rfl (.cons rfl .nil)) (fun w hS => iSpannedBars_c _ _ _ _ _ _ (by exact RdI.rd hS) (by exact RdI.rd hS) (by omega))) rfl rfl ?_
     rintro v92 -
     refine WL.rd (RD.lenR rfl) rfl rfl ?_
     refine WL.rd (RD.move rfl) rfl rfl ?_
     refine WL.rd (RD.move rfl) rfl rfl ?_
     refine WL.rd (RD.lenR rfl) rfl rfl ?_
     refine WL.rd (RD.mul rfl rfl (by omega) (by omega)) rfl rfl ?_
     refine WL.rd (RD.move rfl) rfl rfl ?_
     refine WL.rd (RD.sub rfl rfl (by omega) (by omega)) rfl rfl ?_
     refine WL.rd (RD.leq rfl rfl) rfl rfl ?_
     refine WL.rd (RD.pickT rfl rfl) rfl rfl ?_
     refine WL.nil ?_
     refine JE.seqN ?_
     refine J.condP rfl (fun hc101 => ?_) (fun hc101 => ?_)
     ·
      exfalso
      exact hos hc101
     ·
      refine J.skip ?_
      refine JE.cutN ⟨?_, rfl, rfl⟩ ?_ ?_
      · trivial
      · exact (Sub.consE rfl (by first | rfl | (congr 1; omega) | (simp; done)) (Sub.consE rfl (by first | rfl | (congr 1; omega) | (simp; done)) (Sub.consE rfl (by first | rfl | (congr 1; omega) | (simp; done)) (Sub.consE rfl (by first | rfl | (congr 1; omega) | (simp; done)) (Sub.consE rfl (by first | rfl | (congr 1; omega) | (simp; done)) .nil)))))
      · exact (SubM.row rfl rfl (by first | rfl | (simp [iv, bv, yv, tv, sv]; done)) (SubM.row rfl rfl (by first | rfl | (simp [iv, bv, yv, tv, sv]; done)) (SubM.cells rfl (by first | rfl | (simp; done)) (SubM.row rfl rfl (by first | rfl | (simp [iv, bv, yv, tv, sv]; done)) (SubM.ro rfl (by first | rfl | (simp [iv, bv, yv, tv, sv]; done)) .nil)))))
    ·
     refine WL.noS rfl rfl ?_
     refine WL.noS rfl rfl ?_
     refine WL.noS rfl rfl ?_
     refine WL.noS rfl rfl ?_
     refine WL.noS rfl rfl ?_
     refine WL.noS rfl rfl ?_
     refine WL.noS rfl rfl ?_
     refine WL.noS rfl rfl ?_
     refine WL.noS rfl rfl ?_
     refine WL.noS rfl rfl ?_
     refine WL.noS rfl rfl ?_
     refine WL.rd (RD.pickF rfl rfl) rfl rfl ?_
     refine WL.nil ?_
     refine JE.seqN ?_
     refine J.condF rfl ?_
     refine J.skip ?_
     refine JE.cutN ⟨?_, rfl, rfl⟩ ?_ ?_
     · trivial
     · exact (Sub.consE rfl (by first | rfl | (congr 1; omega) | (simp; done)) (Sub.consE rfl (by first | rfl | (congr 1; omega) | (simp; done)) (Sub.consE rfl (by first | rfl | (congr 1; omega) | (simp; done)) (Sub.consE rfl (by first | rfl | (congr 1; omega) | (simp; done)) (Sub.consE rfl (by first | rfl | (congr 1; omega) | (simp; done)) .nil)))))
     · exact (SubM.row rfl rfl (by first | rfl | (simp [iv, bv, yv, tv, sv]; done)) (SubM.row rfl rfl (by first | rfl | (simp [iv, bv, yv, tv, sv]; done)) (SubM.cells rfl (by first | rfl | (simp; done)) (SubM.row rfl rfl (by first | rfl | (simp [iv, bv, yv, tv, sv]; done)) (SubM.ro rfl (by first | rfl | (simp [iv, bv, yv, tv, sv]; done)) .nil)))))
   ·
    rintro _ _ ⟨-, rfl, rfl⟩
    refine J.cut (fun ee mm => ((True)) ∧ ee = [(0, vb)] ∧ mm = [.row v36 3 1 ((ovL x21.1 x21.2.2.2.1 x21.2.2.2.2 x21.2.1).map iv), .row v29 3 1 ((ovL x21.1 x21.2.2.2.1 x21.2.2.2.2 x21.2.1).map iv), .cells b3 26 [.int .i64 x21.1, x21.2.2.1], .row x21.2.2.1 50 2 ((x21.2.1).map bv), .ro vb 1 (xb.map yv)]) ?_ ?_
    ·
     refine J.seq ?_
     refine J.reg ?_
     refine WL.rd (RD.move rfl) rfl rfl ?_
     refine WL.rd (RD.move rfl) rfl rfl ?_
     refine WL.caseP 103 rfl (fun hg103 => ?_) (fun hg103 => ?_)
     ·
      refine WL.rd (RD.fieldC rfl rfl) rfl rfl ?_
      refine WL.rd (RD.loadC rfl rfl) rfl rfl ?_
      refine WL.rd (RD.lenR rfl) rfl rfl ?_
      refine WL.rd (RD.gtr rfl rfl) rfl rfl ?_
      refine WL.rd (RD.pickT rfl rfl) rfl rfl ?_
      refine WL.nil ?_
      refine JE.seqN ?_
      refine J.condP rfl (fun hc108 => ?_) (fun hc108 => ?_)
      ·
       refine J.seq ?_
       refine J.anyAll [12, 13] ?_
       refine WA.take 0 rfl (RD.loadA rfl rfl) rfl (by kernel_rfl) rfl ?_
       refine WA.takeP 1 rfl (RDP.of fun _ => RD.move rfl) rfl (by kernel_rfl) rfl ?_
       refine WA.takeP 3 rfl (RDP.of fun _ => RD.fieldC rfl rfl) rfl (by kernel_rfl) rfl ?_
       refine WA.take 4 rfl (RD.loadC rfl rfl) rfl (by kernel_rfl) rfl ?_
       refine WA.takeP 5 rfl (RDP.lenR rfl) rfl (by kernel_rfl) rfl ?_
       refine WA.two (i := 2) (j := 11) (by kernel_rfl) ?_ ?_
       ·
        refine WAi.efS rfl (EF.callN (.cons rfl (.cons rfl .nil)) (fun w hS => at_c vb xb _ (by exact RdI.rd hS) (by omega) _ (by omega))) rfl rfl (fun _ => SubI.sub) ?_
        rintro x112 hx112
        refine WA.takeP 6 rfl (RDP.of fun _ => RD.rem rfl rfl (by omega) (by omega)) rfl (by kernel_rfl) rfl ?_
        refine WA.two (i := 7) (j := 11) (by kernel_rfl) ?_ ?_
        ·
         refine WAi.efS rfl (EF.callN (.cons rfl (.cons rfl .nil)) (fun w hS => sRemoveBar_c _ _ _ _ _ (by exact RdI.rd hS) (by omega))) rfl rfl (fun _ => SubI.sub) ?_
         rintro v117 -
         refine WA.takeP 8 rfl (RDP.of fun _ => RD.move rfl) rfl (by kernel_rfl) rfl ?_
         refine WA.takeP 9 rfl (RDP.of fun _ => RD.extract rfl rfl) rfl (by kernel_rfl) rfl ?_
         refine WA.takeP 10 rfl (RDP.of fun _ => RD.extract rfl rfl) rfl (by kernel_rfl) rfl ?_
         refine WA.one (i := 11) (by kernel_rfl) ?_
         refine WAi.efS rfl (by exact EF.allocA) rfl rfl (fun _ => SubI.sub) ?_
         intro b11 _
         refine WA.one (i := 12) (by kernel_rfl) ?_
         refine WAi.efNL rfl (EF.storeA rfl rfl rfl rfl) rfl rfl ?_
         rintro ⟨⟩ -
         refine WB.takeP 13 rfl (RDP.of fun _ => RD.assign rfl) rfl (by kernel_rfl) rfl ?_
         refine WB.done (by kernel_rfl) ?_
         refine JE.seqN ?_
         refine J.seq ?_
         refine J.reg ?_
         refine WL.rd (RD.loadA rfl rfl) rfl rfl ?_
         refine WL.rd (RD.move rfl) rfl rfl ?_
         refine WL.rd (RD.move rfl) rfl rfl ?_
         refine WL.efS (EF.callS (.cons rfl (.cons rfl (.cons rfl .nil))) (fun w hS => iIsSparse_c _ _ _ _ _ _ (by exact RdI.rd hS) (by assumption) (by assumption))) rfl rfl ?_
         rintro ⟨⟩ -
         refine WL.rd (RD.notP rfl) rfl rfl ?_
         refine WL.rd (RD.move rfl) rfl rfl ?_
         refine WL.caseP 125 rfl (fun hg125 => ?_) (fun hg125 => ?_)
         ·
          exfalso
          exact hg125 (sparse_rm hg103 _)
         ·
          refine WL.rd (RD.move rfl) rfl rfl ?_
          refine WL.rd (RD.eql rfl rfl) rfl rfl ?_
          refine WL.rd (RD.move rfl) rfl rfl ?_
          refine WL.caseP 128 rfl (fun hg128 => ?_) (fun hg128 => ?_)
          ·
           refine WL.rd (RD.move rfl) rfl rfl ?_
           refine WL.rd (RD.eql rfl rfl) rfl rfl ?_
           refine WL.rd (RD.pickT rfl rfl) rfl rfl ?_
           refine WL.rd (RD.move rfl) rfl rfl ?_
           refine WL.caseP 132 rfl (fun hg132 => ?_) (fun hg132 => ?_)
           ·
            have hs22 := sparse_22 hg128 hg132 hg103
            refine WL.rd (RD.loadA rfl rfl) rfl rfl ?_
            refine WL.efS (EF.callS (.cons rfl (.cons rfl (.cons rfl .nil))) (fun w hS => iIsSparse_c _ _ _ _ _ _ (by exact RdI.rd hS) (by decide) (by decide))) rfl rfl ?_
            rintro ⟨⟩ -
            refine WL.rd (RD.notP rfl) rfl rfl ?_
            refine WL.rd (RD.pickT rfl rfl) rfl rfl ?_
            refine WL.rd (RD.pickF rfl rfl) rfl rfl ?_
            refine WL.nil ?_
            refine JE.seqN ?_
            refine J.condP rfl (fun hc137 => ?_) (fun hc137 => ?_)
            ·
             refine J.seq ?_
             refine J.reg ?_
             refine WL.rd (RD.assign rfl) rfl rfl ?_
             refine WL.nil ?_
             refine JE.seqN ?_
             refine J.ret ?_
             refine JE.ret rfl (.tmp rfl .nil) (fun w hS => ?_)
             first | exact CS.fin hS rfl | (exfalso; omega) | exact CS.fin hS (by simp_all [mkRes])
            ·
             refine J.skip ?_
             refine JE.cutN ⟨?_, rfl, rfl⟩ ?_ ?_
             · trivial
             · exact (Sub.consE rfl (by first | rfl | (congr 1; omega) | (simp; done)) .nil)
             · exact (SubM.row rfl rfl (by first | rfl | (simp [iv, bv, yv, tv, sv]; done)) (SubM.row rfl rfl (by first | rfl | (simp [iv, bv, yv, tv, sv]; done)) (SubM.cells rfl (by first | rfl | (simp; done)) (SubM.row rfl rfl (by first | rfl | (simp [iv, bv, yv, tv, sv]; done)) (SubM.ro rfl (by first | rfl | (simp [iv, bv, yv, tv, sv]; done)) .nil)))))
           ·
            refine WL.noS rfl rfl ?_
            refine WL.noS rfl rfl ?_
            refine WL.noS rfl rfl ?_
            refine WL.rd (RD.pickF rfl rfl) rfl rfl ?_
            refine WL.rd (RD.pickF rfl rfl) rfl rfl ?_
            refine WL.nil ?_
            refine JE.seqN ?_
            refine J.condF rfl ?_
            refine J.skip ?_
            refine JE.cutN ⟨?_, rfl, rfl⟩ ?_ ?_
            · trivial
            · exact (Sub.consE rfl (by first | rfl | (congr 1; omega) | (simp; done)) .nil)
            · exact (SubM.row rfl rfl (by first | rfl | (simp [iv, bv, yv, tv, sv]; done)) (SubM.row rfl rfl (by first | rfl | (simp [iv, bv, yv, tv, sv]; done)) (SubM.cells rfl (by first | rfl | (simp; done)) (SubM.row rfl rfl (by first | rfl | (simp [iv, bv, yv, tv, sv]; done)) (SubM.ro rfl (by first | rfl | (simp [iv, bv, yv, tv, sv]; done)) .nil)))))
          ·
           refine WL.noS rfl rfl ?_
           refine WL.noS rfl rfl ?_
           refine WL.rd (RD.pickF rfl rfl) rfl rfl ?_
           refine WL.rd (RD.move rfl) rfl rfl ?_
           refine WL.noS rfl rfl ?_
           refine WL.noS rfl rfl ?_
           refine WL.noS rfl rfl ?_
           refine WL.rd (RD.pickF rfl rfl) rfl rfl ?_
           refine WL.rd (RD.pickF rfl rfl) rfl rfl ?_
           refine WL.nil ?_
           refine JE.seqN ?_
           refine J.condF rfl ?_
           refine J.skip ?_
           refine JE.cutN ⟨?_, rfl, rfl⟩ ?_ ?_
           · trivial
           · exact (Sub.consE rfl (by first | rfl | (congr 1; omega) | (simp; done)) .nil)
           · exact (SubM.row rfl rfl (by first | rfl | (simp [iv, bv, yv, tv, sv]; done)) (SubM.row rfl rfl (by first | rfl | (simp [iv, bv, yv, tv, sv]; done)) (SubM.cells rfl (by first | rfl | (simp; done)) (SubM.row rfl rfl (by first | rfl | (simp [iv, bv, yv, tv, sv]; done)) (SubM.ro rfl (by first | rfl | (simp [iv, bv, yv, tv, sv]; done)) .nil)))))
        ·
         refine WAi.efS rfl (by exact EF.allocA) rfl rfl (fun _ => SubI.sub) ?_
         intro b11 _
         refine WA.one (i := 7) (by kernel_rfl) ?_
         refine WAi.efS rfl (EF.callN (.cons rfl (.cons rfl .nil)) (fun w hS => sRemoveBar_c _ _ _ _ _ (by exact RdI.rd hS) (by omega))) rfl rfl (fun _ => SubI.sub) ?_
         rintro v117 -
         refine WA.takeP 8 rfl (RDP.of fun _ => RD.move rfl) rfl (by kernel_rfl) rfl ?_
         refine WA.takeP 9 rfl (RDP.of fun _ => RD.extract rfl rfl) rfl (by kernel_rfl) rfl ?_
         refine WA.takeP 10 rfl (RDP.of fun _ => RD.extract rfl rfl) rfl (by kernel_rfl) rfl ?_
         refine WA.one (i := 12) (by kernel_rfl) ?_
         refine WAi.efNL rfl (EF.storeA rfl rfl rfl rfl) rfl rfl ?_
         rintro ⟨⟩ -
         refine WB.takeP 13 rfl (RDP.of fun _ => RD.assign rfl) rfl (by kernel_rfl) rfl ?_
         refine WB.done (by kernel_rfl) ?_
         refine JE.seqN ?_
         refine J.seq ?_
         refine J.reg ?_
         refine WL.rd (RD.loadA rfl rfl) rfl rfl ?_
         refine WL.rd (RD.move rfl) rfl rfl ?_
         refine WL.rd (RD.move rfl) rfl rfl ?_
         refine WL.efS (EF.callS (.cons rfl (.cons rfl (.cons rfl .nil))) (fun w hS => iIsSparse_c _ _ _ _ _ _ (by exact RdI.rd hS) (by assumption) (by assumption))) rfl rfl ?_
         rintro ⟨⟩ -
         refine WL.rd (RD.notP rfl) rfl rfl ?_
         refine WL.rd (RD.move rfl) rfl rfl ?_
         refine WL.caseP 125 rfl (fun hg125 => ?_) (fun hg125 => ?_)
         ·
          exfalso
          exact hg125 (sparse_rm hg103 _)
         ·
          refine WL.rd (RD.move rfl) rfl rfl ?_
          refine WL.rd (RD.eql rfl rfl) rfl rfl ?_
          refine WL.rd (RD.move rfl) rfl rfl ?_
          refine WL.caseP 128 rfl (fun hg128 => ?_) (fun hg128 => ?_)
          ·
           refine WL.rd (RD.move rfl) rfl rfl ?_
           refine WL.rd (RD.eql rfl rfl) rfl rfl ?_
           refine WL.rd (RD.pickT rfl rfl) rfl rfl ?_
           refine WL.rd (RD.move rfl) rfl rfl ?_
           refine WL.caseP 132 rfl (fun hg132 => ?_) (fun hg132 => ?_)
           ·
            have hs22 := sparse_22 hg128 hg132 hg103
            refine WL.rd (RD.loadA rfl rfl) rfl rfl ?_
            refine WL.efS (EF.callS (.cons rfl (.cons rfl (.cons rfl .nil))) (fun w hS => iIsSparse_c _ _ _ _ _ _ (by exact RdI.rd hS) (by decide) (by decide))) rfl rfl ?_
            rintro ⟨⟩ -
            refine WL.rd (RD.notP rfl) rfl rfl ?_
            refine WL.rd (RD.pickT rfl rfl) rfl rfl ?_
            refine WL.rd (RD.pickF rfl rfl) rfl rfl ?_
            refine WL.nil ?_
            refine JE.seqN ?_
            refine J.condP rfl (fun hc137 => ?_) (fun hc137 => ?_)
            ·
             refine J.seq ?_
             refine J.reg ?_
             refine WL.rd (RD.assign rfl) rfl rfl ?_
             refine WL.nil ?_
             refine JE.seqN ?_
             refine J.ret ?_
             refine JE.ret rfl (.tmp rfl .nil) (fun w hS => ?_)
             first | exact CS.fin hS rfl | (exfalso; omega) | exact CS.fin hS (by simp_all [mkRes])
            ·
             refine J.skip ?_
             refine JE.cutN ⟨?_, rfl, rfl⟩ ?_ ?_
             · trivial
             · exact (Sub.consE rfl (by first | rfl | (congr 1; omega) | (simp; done)) .nil)
             · exact (SubM.row rfl rfl (by first | rfl | (simp [iv, bv, yv, tv, sv]; done)) (SubM.row rfl rfl (by first | rfl | (simp [iv, bv, yv, tv, sv]; done)) (SubM.cells rfl (by first | rfl | (simp; done)) (SubM.row rfl rfl (by first | rfl | (simp [iv, bv, yv, tv, sv]; done)) (SubM.ro rfl (by first | rfl | (simp [iv, bv, yv, tv, sv]; done)) .nil)))))
           ·
            refine WL.noS rfl rfl ?_
            refine WL.noS rfl rfl ?_
            refine WL.noS rfl rfl ?_
            refine WL.rd (RD.pickF rfl rfl) rfl rfl ?_
            refine WL.rd (RD.pickF rfl rfl) rfl rfl ?_
            refine WL.nil ?_
            refine JE.seqN ?_
            refine J.condF rfl ?_
            refine J.skip ?_
            refine JE.cutN ⟨?_, rfl, rfl⟩ ?_ ?_
            · trivial
            · exact (Sub.consE rfl (by first | rfl | (congr 1; omega) | (simp; done)) .nil)
            · exact (SubM.row rfl rfl (by first | rfl | (simp [iv, bv, yv, tv, sv]; done)) (SubM.row rfl rfl (by first | rfl | (simp [iv, bv, yv, tv, sv]; done)) (SubM.cells rfl (by first | rfl | (simp; done)) (SubM.row rfl rfl (by first | rfl | (simp [iv, bv, yv, tv, sv]; done)) (SubM.ro rfl (by first | rfl | (simp [iv, bv, yv, tv, sv]; done)) .nil)))))
          ·
           refine WL.noS rfl rfl ?_
           refine WL.noS rfl rfl ?_
           refine WL.rd (RD.pickF rfl rfl) rfl rfl ?_
           refine WL.rd (RD.move rfl) rfl rfl ?_
           refine WL.noS rfl rfl ?_
           refine WL.noS rfl rfl ?_
           refine WL.noS rfl rfl ?_
           refine WL.rd (RD.pickF rfl rfl) rfl rfl ?_
           refine WL.rd (RD.pickF rfl rfl) rfl rfl ?_
           refine WL.nil ?_
           refine JE.seqN ?_
           refine J.condF rfl ?_
           refine J.skip ?_
           refine JE.cutN ⟨?_, rfl, rfl⟩ ?_ ?_
           · trivial
           · exact (Sub.consE rfl (by first | rfl | (congr 1; omega) | (simp; done)) .nil)
           · exact (SubM.row rfl rfl (by first | rfl | (simp [iv, bv, yv, tv, sv]; done)) (SubM.row rfl rfl (by first | rfl | (simp [iv, bv, yv, tv, sv]; done)) (SubM.cells rfl (by first | rfl | (simp; done)) (SubM.row rfl rfl (by first | rfl | (simp [iv, bv, yv, tv, sv]; done)) (SubM.ro rfl (by first | rfl | (simp [iv, bv, yv, tv, sv]; done)) .nil)))))
       ·
        refine WAi.efS rfl (by exact EF.allocA) rfl rfl (fun _ => SubI.sub) ?_
        intro b11 _
        refine WA.one (i := 2) (by kernel_rfl) ?_
        refine WAi.efS rfl (EF.callN (.cons rfl (.cons rfl .nil)) (fun w hS => at_c vb xb _ (by exact RdI.rd hS) (by omega) _ (by omega))) rfl rfl (fun _ => SubI.sub) ?_
        rintro x112 hx112
        refine WA.takeP 6 rfl (RDP.of fun _ => RD.rem rfl rfl (by omega) (by omega)) rfl (by kernel_rfl) rfl ?_
        refine WA.one (i := 7) (by kernel_rfl) ?_
        refine WAi.efS rfl (EF.callN (.cons rfl (.cons rfl .nil)) (fun w hS => sRemoveBar_c _ _ _ _ _ (by exact RdI.rd hS) (by omega))) rfl rfl (fun _ => SubI.sub) ?_
        rintro v117 -
        refine WA.takeP 8 rfl (RDP.of fun _ => RD.move rfl) rfl (by kernel_rfl) rfl ?_
        refine WA.takeP 9 rfl (RDP.of fun _ => RD.extract rfl rfl) rfl (by kernel_rfl) rfl ?_
        refine WA.takeP 10 rfl (RDP.of fun _ => RD.extract rfl rfl) rfl (by kernel_rfl) rfl ?_
        refine WA.one (i := 12) (by kernel_rfl) ?_
        refine WAi.efNL rfl (EF.storeA rfl rfl rfl rfl) rfl rfl ?_
        rintro ⟨⟩ -
        refine WB.takeP 13 rfl (RDP.of fun _ => RD.assign rfl) rfl (by kernel_rfl) rfl ?_
        refine WB.done (by kernel_rfl) ?_
        refine JE.seqN ?_
        refine J.seq ?_
        refine J.reg ?_
        refine WL.rd (RD.loadA rfl rfl) rfl rfl ?_
        refine WL.rd (RD.move rfl) rfl rfl ?_
        refine WL.rd (RD.move rfl) rfl rfl ?_
        refine WL.efS (EF.callS (.cons rfl (.cons rfl (.cons rfl .nil))) (fun w hS => iIsSparse_c _ _ _ _ _ _ (by exact RdI.rd hS) (by assumption) (by assumption))) rfl rfl ?_
        rintro ⟨⟩ -
        refine WL.rd (RD.notP rfl) rfl rfl ?_
        refine WL.rd (RD.move rfl) rfl rfl ?_
        refine WL.caseP 125 rfl (fun hg125 => ?_) (fun hg125 => ?_)
        ·
         exfalso
         exact hg125 (sparse_rm hg103 _)
        ·
         refine WL.rd (RD.move rfl) rfl rfl ?_
         refine WL.rd (RD.eql rfl rfl) rfl rfl ?_
         refine WL.rd (RD.move rfl) rfl rfl ?_
         refine WL.caseP 128 rfl (fun hg128 => ?_) (fun hg128 => ?_)
         ·
          refine WL.rd (RD.move rfl) rfl rfl ?_
          refine WL.rd (RD.eql rfl rfl) rfl rfl ?_
          refine WL.rd (RD.pickT rfl rfl) rfl rfl ?_
          refine WL.rd (RD.move rfl) rfl rfl ?_
          refine WL.caseP 132 rfl (fun hg132 => ?_) (fun hg132 => ?_)
          ·
           have hs22 := sparse_22 hg128 hg132 hg103
           refine WL.rd (RD.loadA rfl rfl) rfl rfl ?_
           refine WL.efS (EF.callS (.cons rfl (.cons rfl (.cons rfl .nil))) (fun w hS => iIsSparse_c _ _ _ _ _ _ (by exact RdI.rd hS) (by decide) (by decide))) rfl rfl ?_
           rintro ⟨⟩ -
           refine WL.rd (RD.notP rfl) rfl rfl ?_
           refine WL.rd (RD.pickT rfl rfl) rfl rfl ?_
           refine WL.rd (RD.pickF rfl rfl) rfl rfl ?_
           refine WL.nil ?_
           refine JE.seqN ?_
           refine J.condP rfl (fun hc137 => ?_) (fun hc137 => ?_)
           ·
            refine J.seq ?_
            refine J.reg ?_
            refine WL.rd (RD.assign rfl) rfl rfl ?_
            refine WL.nil ?_
            refine JE.seqN ?_
            refine J.ret ?_
            refine JE.ret rfl (.tmp rfl .nil) (fun w hS => ?_)
            first | exact CS.fin hS rfl | (exfalso; omega) | exact CS.fin hS (by simp_all [mkRes])
           ·
            refine J.skip ?_
            refine JE.cutN ⟨?_, rfl, rfl⟩ ?_ ?_
            · trivial
            · exact (Sub.consE rfl (by first | rfl | (congr 1; omega) | (simp; done)) .nil)
            · exact (SubM.row rfl rfl (by first | rfl | (simp [iv, bv, yv, tv, sv]; done)) (SubM.row rfl rfl (by first | rfl | (simp [iv, bv, yv, tv, sv]; done)) (SubM.cells rfl (by first | rfl | (simp; done)) (SubM.row rfl rfl (by first | rfl | (simp [iv, bv, yv, tv, sv]; done)) (SubM.ro rfl (by first | rfl | (simp [iv, bv, yv, tv, sv]; done)) .nil)))))
          ·
           refine WL.noS rfl rfl ?_
           refine WL.noS rfl rfl ?_
           refine WL.noS rfl rfl ?_
           refine WL.rd (RD.pickF rfl rfl) rfl rfl ?_
           refine WL.rd (RD.pickF rfl rfl) rfl rfl ?_
           refine WL.nil ?_
           refine JE.seqN ?_
           refine J.condF rfl ?_
           refine J.skip ?_
           refine JE.cutN ⟨?_, rfl, rfl⟩ ?_ ?_
           · trivial
           · exact (Sub.consE rfl (by first | rfl | (congr 1; omega) | (simp; done)) .nil)
           · exact (SubM.row rfl rfl (by first | rfl | (simp [iv, bv, yv, tv, sv]; done)) (SubM.row rfl rfl (by first | rfl | (simp [iv, bv, yv, tv, sv]; done)) (SubM.cells rfl (by first | rfl | (simp; done)) (SubM.row rfl rfl (by first | rfl | (simp [iv, bv, yv, tv, sv]; done)) (SubM.ro rfl (by first | rfl | (simp [iv, bv, yv, tv, sv]; done)) .nil)))))
         ·
          refine WL.noS rfl rfl ?_
          refine WL.noS rfl rfl ?_
          refine WL.rd (RD.pickF rfl rfl) rfl rfl ?_
          refine WL.rd (RD.move rfl) rfl rfl ?_
          refine WL.noS rfl rfl ?_
          refine WL.noS rfl rfl ?_
          refine WL.noS rfl rfl ?_
          refine WL.rd (RD.pickF rfl rfl) rfl rfl ?_
          refine WL.rd (RD.pickF rfl rfl) rfl rfl ?_
          refine WL.nil ?_
          refine JE.seqN ?_
          refine J.condF rfl ?_
          refine J.skip ?_
          refine JE.cutN ⟨?_, rfl, rfl⟩ ?_ ?_
          · trivial
          · exact (Sub.consE rfl (by first | rfl | (congr 1; omega) | (simp; done)) .nil)
          · exact (SubM.row rfl rfl (by first | rfl | (simp [iv, bv, yv, tv, sv]; done)) (SubM.row rfl rfl (by first | rfl | (simp [iv, bv, yv, tv, sv]; done)) (SubM.cells rfl (by first | rfl | (simp; done)) (SubM.row rfl rfl (by first | rfl | (simp [iv, bv, yv, tv, sv]; done)) (SubM.ro rfl (by first | rfl | (simp [iv, bv, yv, tv, sv]; done)) .nil)))))
      ·
       refine J.skip ?_
       refine JE.cutN ⟨?_, rfl, rfl⟩ ?_ ?_
       · trivial
       · exact (Sub.consE rfl (by first | rfl | (congr 1; omega) | (simp; done)) .nil)
       · exact (SubM.row rfl rfl (by first | rfl | (simp [iv, bv, yv, tv, sv]; done)) (SubM.row rfl rfl (by first | rfl | (simp [iv, bv, yv, tv, sv]; done)) (SubM.cells rfl (by first | rfl | (simp; done)) (SubM.row rfl rfl (by first | rfl | (simp [iv, bv, yv, tv, sv]; done)) (SubM.ro rfl (by first | rfl | (simp [iv, bv, yv, tv, sv]; done)) .nil)))))
     ·
      refine WL.noS rfl rfl ?_
      refine WL.noS rfl rfl ?_
      refine WL.noS rfl rfl ?_
      refine WL.noS rfl rfl ?_
      refine WL.rd (RD.pickF rfl rfl) rfl rfl ?_
      refine WL.nil ?_
      refine JE.seqN ?_
      refine J.condF rfl ?_
      refine J.skip ?_
      refine JE.cutN ⟨?_, rfl, rfl⟩ ?_ ?_
      · trivial
      · exact (Sub.consE rfl (by first | rfl | (congr 1; omega) | (simp; done)) .nil)
      · exact (SubM.row rfl rfl (by first | rfl | (simp [iv, bv, yv, tv, sv]; done)) (SubM.row rfl rfl (by first | rfl | (simp [iv, bv, yv, tv, sv]; done)) (SubM.cells rfl (by first | rfl | (simp; done)) (SubM.row rfl rfl (by first | rfl | (simp [iv, bv, yv, tv, sv]; done)) (SubM.ro rfl (by first | rfl | (simp [iv, bv, yv, tv, sv]; done)) .nil)))))
    ·
     rintro _ _ ⟨-, rfl, rfl⟩
     refine J.seq ?_
     refine J.reg ?_
     refine WL.rd (RD.move rfl) rfl rfl ?_
     refine WL.efS (EF.callN (.cons rfl .nil) (fun w hS => DrawSpannedBars_c vb xb _ (by exact RdI.rd hS) (by omega))) rfl rfl ?_
     rintro x140 hx140
     refine WL.rd (RD.move rfl) rfl rfl ?_
     refine WL.rd (RD.extract rfl rfl) rfl rfl ?_
     refine WL.rd (RD.extract rfl rfl) rfl rfl ?_
     refine WL.efS (EF.allocA) rfl rfl ?_
     intro b13 _
     refine WL.efN (EF.storeA rfl rfl rfl rfl) rfl ?_
     rintro ⟨⟩ -
     refine WL.rd (RD.assign rfl) rfl rfl ?_
     refine WL.nil ?_
     refine JE.seqN ?_
     refine J.seq ?_
     refine J.reg ?_
     refine WL.rd (RD.move rfl) rfl rfl ?_
     refine WL.efS (EF.callN (.cons rfl .nil) (fun w hS => DrawIsRange_c vb xb _ (by exact RdI.rd hS) (by omega))) rfl rfl ?_
     rintro x145 hx145
     have hl145 : -9223372036854775808 ≤ x145.2 ∧ x145.2 ≤ 9223372036854775807 := by omega
     refine WL.rd (RD.move rfl) rfl rfl ?_
     refine WL.rd (RD.extract rfl rfl) rfl rfl ?_
     refine WL.rd (RD.extract rfl rfl) rfl rfl ?_
     refine WL.rd (RD.assign rfl) rfl rfl ?_
     refine WL.rd (RD.assign rfl) rfl rfl ?_
     refine WL.nil ?_
     refine JE.seqN ?_
     refine J.seq ?_
     refine J.anyAll [] ?_
     refine WA.take 0 rfl (RD.loadA rfl rfl) rfl (by kernel_rfl) rfl ?_
     refine WA.takeP 1 rfl (RDP.of fun _ => RD.move rfl) rfl (by kernel_rfl) rfl ?_
     refine WA.take 3 rfl (RD.loadA rfl rfl) rfl (by kernel_rfl) rfl ?_
     refine WA.takeP 4 rfl (RDP.of fun _ => RD.move rfl) rfl (by kernel_rfl) rfl ?_
     refine WA.one (i := 2) (by kernel_rfl) ?_
     refine WAi.efS rfl (EF.callN (.cons rfl (.cons rfl .nil)) (fun w hS => iSpannedBars_c _ _ _ _ _ _ (by exact RdI.rd hS) (by exact RdI.rd hS) (by omega))) rfl rfl (fun _ => SubI.sub) ?_
     rintro v150 -
     refine WA.one (i := 5) (by kernel_rfl) ?_
     refine WAi.efS rfl (EF.callN (.cons rfl (.cons rfl .nil)) (fun w hS => sSpannedBars_c _ _ _ _ _ _ (by exact RdI.rd hS) (by exact RdI.rd hS) (by omega))) rfl rfl (fun _ => SubI.sub) ?_
     rintro v153 -
     refine WA.one (i := 6) (by kernel_rfl) ?_
     refine WAi.efS rfl (EF.callS (.cons rfl (.cons rfl .nil)) (fun w hS => sameInts_c _ _ _ _ _ (by exact RdI.rd hS) (by exact RdI.rd hS))) rfl rfl (fun _ => SubI.sub) ?_
     rintro ⟨⟩ -
     refine WA.takeP 7 rfl (RDP.of fun _ => RD.move rfl) rfl (by kernel_rfl) rfl ?_
     refine WA.caseP 155 rfl (fun hg155 => ?_) (fun hg155 => ?_)
     ·
      refine WA.takeP 8 rfl (RDP.of fun _ => RD.move rfl) rfl (by kernel_rfl) rfl ?_
      refine WA.takeP 9 rfl (RDP.of fun _ => RD.move rfl) rfl (by kernel_rfl) rfl ?_
      refine WA.takeP 11 rfl (RDP.of fun _ => RD.move rfl) rfl (by kernel_rfl) rfl ?_
      refine WA.takeP 12 rfl (RDP.of fun _ => RD.move rfl) rfl (by kernel_rfl) rfl ?_
      refine WA.one (i := 10) (by kernel_rfl) ?_
      refine WAi.efS rfl (EF.callS (.cons rfl (.cons rfl .nil)) (fun w hS => iIsRange_c _ _ _ (by assumption))) rfl rfl (fun _ => SubI.sub) ?_
      rintro ⟨⟩ -
      refine WA.one (i := 13) (by kernel_rfl) ?_
      refine WAi.efS rfl (EF.callS (.cons rfl (.cons rfl .nil)) (fun w hS => sIsRange_c _ _ _ (by assumption))) rfl rfl (fun _ => SubI.sub) ?_
      rintro ⟨⟩ -
      refine WA.takeP 14 rfl (RDP.of fun _ => RD.eqlB rfl rfl) rfl (by kernel_rfl) rfl ?_
      refine WA.takeP 15 rfl (RDP.of fun _ => RD.pickT rfl rfl) rfl (by kernel_rfl) rfl ?_
      refine WA.takeP 16 rfl (RDP.of fun _ => RD.assign rfl) rfl (by kernel_rfl) rfl ?_
      refine WA.done (by kernel_rfl) ?_
      refine JE.seqN ?_
      refine J.ret ?_
      refine JE.ret rfl (.tmp rfl .nil) (fun w hS => ?_)
      first | exact CS.fin hS rfl | (exfalso; omega) | exact CS.fin hS (by simp_all [mkRes])
     ·
      refine WA.no 8 rfl rfl (by kernel_rfl) rfl ?_
      refine WA.no 9 rfl rfl (by kernel_rfl) rfl ?_
      refine WA.no 10 rfl rfl (by kernel_rfl) rfl ?_
      refine WA.no 11 rfl rfl (by kernel_rfl) rfl ?_
      refine WA.no 12 rfl rfl (by kernel_rfl) rfl ?_
      refine WA.no 13 rfl rfl (by kernel_rfl) rfl ?_
      refine WA.no 14 rfl rfl (by kernel_rfl) rfl ?_
      refine WA.takeP 15 rfl (RDP.of fun _ => RD.pickF rfl rfl) rfl (by kernel_rfl) rfl ?_
      refine WA.takeP 16 rfl (RDP.of fun _ => RD.assign rfl) rfl (by kernel_rfl) rfl ?_
      refine WA.done (by kernel_rfl) ?_
      refine JE.seqN ?_
      refine J.ret ?_
      refine JE.ret rfl (.tmp rfl .nil) (fun w hS => ?_)
      first | exact CS.fin hS rfl | (exfalso; omega) | exact CS.fin hS (by simp_all [mkRes])

end Go.Proofs.Ytlcijjkbgcllfaa
