/- Contracts of functions of the program, each walked once; written by a program of our own. -/
import Derived.Test.YtlcijjkbgcllfaaDeG
import Derived.Test.YtlcijjkbgcllfaaSo
namespace Go.Proofs.Ytlcijjkbgcllfaa
open Go Go.RowKit
set_option maxRecDepth 4000

theorem subM_app (ns : List En) {a m : List En} (h : SubM a m) : SubM a (ns ++ m) := by
  induction h with
  | nil => exact .nil
  | cons h _ ih => exact .cons ((h.append_left ns).trans List.perm_middle) ih
theorem subM_refl : ∀ m : List En, SubM m m
  | [] => .nil
  | _ :: m => .cons (List.Perm.refl _) (subM_refl m)
theorem subM_con (x : En) {a m : List En} (h : SubM a m) : SubM a (x :: m) := subM_app [x] h
set_option maxHeartbeats 8000000
theorem law_c (vb : Value) (xb : List UInt8) (w : World) (hr : Rd w vb 1 (xb.map yv)) :
    CS Try.prog 4 [vb] w (.bool true) := by
 refine calls_of_J (mu := (fun _ => False)) (m := [.ro vb 1 (xb.map yv)]) (e := [(0, vb)]) Try.func4 rfl rfl (.cons rfl .nil) (((St.init _ _).ro0 hr (by decide))) ?_
 refine J.seq ?_
 refine J.reg ?_
 refine WL.rd (RD.assign rfl) rfl rfl ?_
 refine WL.nil ?_
 refine JE.seqN ?_
 refine J.seq ?_
 refine J.seq ?_
 refine J.reg ?_
 refine WL.rd (RD.move rfl) rfl rfl ?_
 refine WL.efS (EF.callS (.cons rfl .nil) (fun w hS => big_c vb xb _ (by exact RdI.rd hS))) rfl rfl ?_
 rintro ⟨⟩ -
 refine WL.nil ?_
 refine JE.seqN ?_
 refine J.condP rfl (fun hc38 => ?_) (fun hc38 => ?_)
 ·
  refine J.seq ?_
  refine J.reg ?_
  refine WL.rd (RD.assign rfl) rfl rfl ?_
  refine WL.nil ?_
  refine JE.seqN ?_
  refine J.ret ?_
  refine JE.ret rfl (.tmp rfl .nil) (fun w hS => ?_)
  first | exact CS.fin hS rfl | (exfalso; omega) | exact CS.fin hS (by simp_all [mkRes])
 ·
  have hlb : xb.length ≤ 1048576 := by omega
  refine J.skip ?_
  refine JE.seqN ?_
  refine J.seq ?_
  refine J.reg ?_
  refine WL.rd (RD.move rfl) rfl rfl ?_
  refine WL.efS (EF.callN (.cons rfl .nil) (fun w hS => DrawAddBar_c vb xb _ (by exact RdI.rd hS) (by omega))) rfl rfl ?_
  rintro x41 hx41
  have hal := adL_24 (n := x41.1) (xs := x41.2.1) x41.2.2.2.1 x41.2.2.2.2
  have hao := adL_or x41.1 x41.2.1 x41.2.2.2.1 x41.2.2.2.2
  refine WL.rd (RD.move rfl) rfl rfl ?_
  refine WL.rd (RD.extract rfl rfl) rfl rfl ?_
  refine WL.rd (RD.extract rfl rfl) rfl rfl ?_
  refine WL.rd (RD.extract rfl rfl) rfl rfl ?_
  refine WL.efS (EF.allocA) rfl rfl ?_
  intro b3 _
  refine WL.efN (EF.storeA rfl rfl rfl rfl) rfl ?_
  rintro ⟨⟩ -
  refine WL.rd (RD.assign rfl) rfl rfl ?_
  refine WL.rd (RD.assign rfl) rfl rfl ?_
  refine WL.nil ?_
  refine JE.seqN ?_
  refine J.seq ?_
  refine J.reg ?_
  refine WL.rd (RD.loadA rfl rfl) rfl rfl ?_
  refine WL.rd (RD.move rfl) rfl rfl ?_
  refine WL.rd (RD.move rfl) rfl rfl ?_
  refine WL.efS (EF.callN (.cons rfl (.cons rfl (.cons rfl .nil))) (fun w hS => iAddBar_c _ _ _ _ _ _ (by exact RdI.rd hS) (by omega))) rfl rfl ?_
  rintro v49 -
  refine WL.rd (RD.move rfl) rfl rfl ?_
  refine WL.rd (RD.extract rfl rfl) rfl rfl ?_
  refine WL.rd (RD.extract rfl rfl) rfl rfl ?_
  refine WL.efS (EF.allocA) rfl rfl ?_
  intro b6 _
  refine WL.efN (EF.storeA rfl rfl rfl rfl) rfl ?_
  rintro ⟨⟩ -
  refine WL.rd (RD.assign rfl) rfl rfl ?_
  refine WL.nil ?_
  refine JE.seqN ?_
  refine J.seq ?_
  refine J.reg ?_
  refine WL.rd (RD.loadA rfl rfl) rfl rfl ?_
  refine WL.rd (RD.move rfl) rfl rfl ?_
  refine WL.rd (RD.move rfl) rfl rfl ?_
  refine WL.efS (EF.callN (.cons rfl (.cons rfl (.cons rfl .nil))) (fun w hS => sAddBar_c _ _ _ _ _ _ (by exact RdI.rd hS) (by omega))) rfl rfl ?_
  rintro v56 -
  refine WL.rd (RD.move rfl) rfl rfl ?_
  refine WL.rd (RD.extract rfl rfl) rfl rfl ?_
  refine WL.rd (RD.extract rfl rfl) rfl rfl ?_
  refine WL.efS (EF.allocA) rfl rfl ?_
  intro b8 _
  refine WL.efN (EF.storeA rfl rfl rfl rfl) rfl ?_
  rintro ⟨⟩ -
  refine WL.rd (RD.assign rfl) rfl rfl ?_
  refine WL.nil ?_
  refine JE.seqN ?_
  refine J.cut (fun ee mm => ((True)) ∧ ee = [(0, vb), (3, .pointer (some ⟨b3, 0, none⟩))] ∧ mm = [.cells b3 26 [.int .i64 x41.1, x41.2.2.1], .row x41.2.2.1 50 2 ((x41.2.1).map bv), .ro vb 1 (xb.map yv)]) ?_ ?_
  ·
   refine J.seq ?_
   refine J.anyAll [] ?_
   refine WA.takeP 0 rfl (RDP.of fun _ => RD.move rfl) rfl (by kernel_rfl) rfl ?_
   refine WA.takeP 1 rfl (RDP.of fun _ => RD.move rfl) rfl (by kernel_rfl) rfl ?_
   refine WA.takeP 2 rfl (RDP.of fun _ => RD.neqB rfl rfl) rfl (by kernel_rfl) rfl ?_
   refine WA.takeP 3 rfl (RDP.of fun _ => RD.move rfl) rfl (by kernel_rfl) rfl ?_
   refine WA.case 62 rfl (fun hg62 => ?_) (fun hg62 => ?_)
   ·
    refine WA.no 4 rfl rfl (by kernel_rfl) rfl ?_
    refine WA.no 5 rfl rfl (by kernel_rfl) rfl ?_
    refine WA.no 6 rfl rfl (by kernel_rfl) rfl ?_
    refine WA.no 7 rfl rfl (by kernel_rfl) rfl ?_
    refine WA.takeP 8 rfl (RDP.of fun _ => RD.pickT rfl rfl) rfl (by kernel_rfl) rfl ?_
    refine WA.takeP 9 rfl (RDP.of fun _ => RD.move rfl) rfl (by kernel_rfl) rfl ?_
    refine WA.no 10 rfl rfl (by kernel_rfl) rfl ?_
    refine WA.no 11 rfl rfl (by kernel_rfl) rfl ?_
    refine WA.no 12 rfl rfl (by kernel_rfl) rfl ?_
    refine WA.no 13 rfl rfl (by kernel_rfl) rfl ?_
    refine WA.no 14 rfl rfl (by kernel_rfl) rfl ?_
    refine WA.no 15 rfl rfl (by kernel_rfl) rfl ?_
    refine WA.no 16 rfl rfl (by kernel_rfl) rfl ?_
    refine WA.no 17 rfl rfl (by kernel_rfl) rfl ?_
    refine WA.no 18 rfl rfl (by kernel_rfl) rfl ?_
    refine WA.no 19 rfl rfl (by kernel_rfl) rfl ?_
    refine WA.no 20 rfl rfl (by kernel_rfl) rfl ?_
    refine WA.no 21 rfl rfl (by kernel_rfl) rfl ?_
    refine WA.no 22 rfl rfl (by kernel_rfl) rfl ?_
    refine WA.no 23 rfl rfl (by kernel_rfl) rfl ?_
    refine WA.no 24 rfl rfl (by kernel_rfl) rfl ?_
    refine WA.no 25 rfl rfl (by kernel_rfl) rfl ?_
    refine WA.no 26 rfl rfl (by kernel_rfl) rfl ?_
    refine WA.no 27 rfl rfl (by kernel_rfl) rfl ?_
    refine WA.takeP 28 rfl (RDP.of fun _ => RD.pickT rfl rfl) rfl (by kernel_rfl) rfl ?_
    refine WA.done (by kernel_rfl) ?_
    refine JE.seqN ?_
    refine J.condT rfl ?_
    refine J.seq ?_
    refine J.reg ?_
    refine WL.rd (RD.assign rfl) rfl rfl ?_
    refine WL.nil ?_
    refine JE.seqN ?_
    refine J.ret ?_
    refine JE.ret rfl (.tmp rfl .nil) (fun w hS => ?_)
    first | exact CS.fin hS rfl | (exfalso; omega) | exact CS.fin hS (by simp_all)
   ·
    refine WA.take 4 rfl (RD.loadA rfl rfl) rfl (by kernel_rfl) rfl ?_
    refine WA.take 5 rfl (RD.loadA rfl rfl) rfl (by kernel_rfl) rfl ?_
    refine WA.one (i := 6) (by kernel_rfl) ?_
    refine WAi.efS rfl (EF.callS (.cons rfl (.cons rfl .nil)) (fun w hS => sEqualGraphs_c _ _ _ _ _ _ _ (by exact RdI.rd hS) (by exact RdI.rd hS))) rfl rfl (fun _ => by repeat (first | exact subM_refl _ | refine subM_app _ ?_ | refine subM_con _ ?_)) ?_
    rintro ⟨⟩ -
    refine WA.takeP 7 rfl (RDP.of fun _ => RD.notP rfl) rfl (by kernel_rfl) rfl ?_
    refine WA.takeP 8 rfl (RDP.of fun _ => RD.pickF rfl rfl) rfl (by kernel_rfl) rfl ?_
    refine WA.takeP 9 rfl (RDP.of fun _ => RD.move rfl) rfl (by kernel_rfl) rfl ?_
    refine WA.caseP 68 rfl (fun hg68 => ?_) (fun hg68 => ?_)
    ·
     refine WA.no 10 rfl rfl (by kernel_rfl) rfl ?_
     refine WA.no 11 rfl rfl (by kernel_rfl) rfl ?_
     refine WA.no 12 rfl rfl (by kernel_rfl) rfl ?_
     refine WA.no 13 rfl rfl (by kernel_rfl) rfl ?_
     refine WA.no 14 rfl rfl (by kernel_rfl) rfl ?_
     refine WA.no 15 rfl rfl (by kernel_rfl) rfl ?_
     refine WA.no 16 rfl rfl (by kernel_rfl) rfl ?_
     refine WA.no 17 rfl rfl (by kernel_rfl) rfl ?_
     refine WA.no 18 rfl rfl (by kernel_rfl) rfl ?_
     refine WA.no 19 rfl rfl (by kernel_rfl) rfl ?_
     refine WA.no 20 rfl rfl (by kernel_rfl) rfl ?_
     refine WA.no 21 rfl rfl (by kernel_rfl) rfl ?_
     refine WA.no 22 rfl rfl (by kernel_rfl) rfl ?_
     refine WA.no 23 rfl rfl (by kernel_rfl) rfl ?_
     refine WA.no 24 rfl rfl (by kernel_rfl) rfl ?_
     refine WA.no 25 rfl rfl (by kernel_rfl) rfl ?_
     refine WA.no 26 rfl rfl (by kernel_rfl) rfl ?_
     refine WA.no 27 rfl rfl (by kernel_rfl) rfl ?_
     refine WA.takeP 28 rfl (RDP.of fun _ => RD.pickT rfl rfl) rfl (by kernel_rfl) rfl ?_
     refine WA.done (by kernel_rfl) ?_
     refine JE.seqN ?_
     refine J.condT rfl ?_
     refine J.seq ?_
     refine J.reg ?_
     refine WL.rd (RD.assign rfl) rfl rfl ?_
     refine WL.nil ?_
     refine JE.seqN ?_
     refine J.ret ?_
     refine JE.ret rfl (.tmp rfl .nil) (fun w hS => ?_)
     first | exact CS.fin hS rfl | (exfalso; omega) | exact CS.fin hS (by simp_all)
    ·
     refine WA.takeP 10 rfl (RDP.of fun _ => RD.move rfl) rfl (by kernel_rfl) rfl ?_
     refine WA.takeP 11 rfl (RDP.of fun _ => RD.move rfl) rfl (by kernel_rfl) rfl ?_
     refine WA.caseP 70 rfl (fun hg70 => ?_) (fun hg70 => ?_)
     ·
      have hca := count_ad hg70
      have hia := isG_ad hg70
      have hcp := List.countP_le_length (p := fB x41.2.2.2.2 x41.2.2.2.1) (l := x41.2.1)
      refine WA.take 12 rfl (RD.loadA rfl rfl) rfl (by kernel_rfl) rfl ?_
      refine WA.takeP 13 rfl (RDP.of fun _ => RD.move rfl) rfl (by kernel_rfl) rfl ?_
      refine WA.takeP 14 rfl (RDP.of fun _ => RD.move rfl) rfl (by kernel_rfl) rfl ?_
      refine WA.take 16 rfl (RD.loadA rfl rfl) rfl (by kernel_rfl) rfl ?_
      refine WA.takeP 17 rfl (RDP.of fun _ => RD.move rfl) rfl (by kernel_rfl) rfl ?_
      refine WA.takeP 18 rfl (RDP.of fun _ => RD.move rfl) rfl (by kernel_rfl) rfl ?_
      refine WA.one (i := 15) (by kernel_rfl) ?_
      refine WAi.efS rfl (EF.callS (.cons rfl (.cons rfl (.cons rfl .nil))) (fun w hS => iCountBar_c _ _ _ _ _ _ (by exact RdI.rd hS))) rfl rfl (fun _ => by repeat (first | exact subM_refl _ | refine subM_app _ ?_ | refine subM_con _ ?_)) ?_
      rintro ⟨⟩ -
      refine WA.one (i := 19) (by kernel_rfl) ?_
      refine WAi.efS rfl (EF.callS (.cons rfl (.cons rfl (.cons rfl .nil))) (fun w hS => iCountBar_c _ _ _ _ _ _ (by exact RdI.rd hS))) rfl rfl (fun _ => by repeat (first | exact subM_refl _ | refine subM_app _ ?_ | refine subM_con _ ?_)) ?_
      rintro ⟨⟩ -
      refine WA.takeP 20 rfl (RDP.of fun _ => RD.add rfl rfl (by omega) (by omega)) rfl (by kernel_rfl) rfl ?_
      refine WA.takeP 21 rfl (RDP.of fun _ => RD.neq rfl rfl) rfl (by kernel_rfl) rfl ?_
      refine WA.takeP 22 rfl (RDP.of fun _ => RD.move rfl) rfl (by kernel_rfl) rfl ?_
      refine WA.caseP 81 rfl (fun hg81 => ?_) (fun hg81 => ?_)
      ·
       refine WA.no 23 rfl rfl (by kernel_rfl) rfl ?_
       refine WA.no 24 rfl rfl (by kernel_rfl) rfl ?_
       refine WA.no 25 rfl rfl (by kernel_rfl) rfl ?_
       refine WA.takeP 26 rfl (RDP.of fun _ => RD.pickT rfl rfl) rfl (by kernel_rfl) rfl ?_
       refine WA.takeP 27 rfl (RDP.of fun _ => RD.pickT rfl rfl) rfl (by kernel_rfl) rfl ?_
       refine WA.takeP 28 rfl (RDP.of fun _ => RD.pickF rfl rfl) rfl (by kernel_rfl) rfl ?_
       refine WA.done (by kernel_rfl) ?_
       refine JE.seqN ?_
       refine J.condT rfl ?_
       refine J.seq ?_
       refine J.reg ?_
       refine WL.rd (RD.assign rfl) rfl rfl ?_
       refine WL.nil ?_
       refine JE.seqN ?_
       refine J.ret ?_
       refine JE.ret rfl (.tmp rfl .nil) (fun w hS => ?_)
       first | exact CS.fin hS rfl | (exfalso; omega) | exact CS.fin hS (by simp_all [mkRes])
      ·
       refine WA.take 23 rfl (RD.loadA rfl rfl) rfl (by kernel_rfl) rfl ?_
       refine WA.one (i := 24) (by kernel_rfl) ?_
       refine WAi.efS rfl (EF.callS (.cons rfl .nil) (fun w hS => iIsGraph_c _ _ _ _ (by exact RdI.rd hS))) rfl rfl (fun _ => by repeat (first | exact subM_refl _ | refine subM_app _ ?_ | refine subM_con _ ?_)) ?_
       rintro ⟨⟩ -
       refine WA.takeP 25 rfl (RDP.of fun _ => RD.notP rfl) rfl (by kernel_rfl) rfl ?_
       refine WA.takeP 26 rfl (RDP.of fun _ => RD.pickF rfl rfl) rfl (by kernel_rfl) rfl ?_
       refine WA.takeP 27 rfl (RDP.of fun _ => RD.pickT rfl rfl) rfl (by kernel_rfl) rfl ?_
       refine WA.takeP 28 rfl (RDP.of fun _ => RD.pickF rfl rfl) rfl (by kernel_rfl) rfl ?_
       refine WA.done (by kernel_rfl) ?_
       refine JE.seqN ?_
       refine J.condP rfl (fun hc87 => ?_) (fun hc87 => ?_)
       ·
        refine J.seq ?_
        refine J.reg ?_
        refine WL.rd (RD.assign rfl) rfl rfl ?_
        refine WL.nil ?_
        refine JE.seqN ?_
        refine J.ret ?_
        refine JE.ret rfl (.tmp rfl .nil) (fun w hS => ?_)
        first | exact CS.fin hS rfl | (exfalso; omega) | exact CS.fin hS (by simp_all)
       ·
        refine J.skip ?_
        refine JE.cutN ⟨?_, rfl, rfl⟩ ?_ ?_
        · trivial
        · exact (Sub.consE rfl (by first | rfl | (congr 1; omega) | (simp; done)) (Sub.consE rfl (by first | rfl | (congr 1; omega) | (simp; done)) .nil))
        · exact (SubM.cells rfl (by first | rfl | (simp; done)) (SubM.row rfl rfl (by first | rfl | (simp [iv, bv, yv, tv, sv]; done)) (SubM.ro rfl (by first | rfl | (simp [iv, bv, yv, tv, sv]; done)) .nil)))
     ·
      refine WA.no 12 rfl rfl (by kernel_rfl) rfl ?_
      refine WA.no 13 rfl rfl (by kernel_rfl) rfl ?_
      refine WA.no 14 rfl rfl (by kernel_rfl) rfl ?_
      refine WA.no 15 rfl rfl (by kernel_rfl) rfl ?_
      refine WA.no 16 rfl rfl (by kernel_rfl) rfl ?_
      refine WA.no 17 rfl rfl (by kernel_rfl) rfl ?_
      refine WA.no 18 rfl rfl (by kernel_rfl) rfl ?_
      refine WA.no 19 rfl rfl (by kernel_rfl) rfl ?_
      refine WA.no 20 rfl rfl (by kernel_rfl) rfl ?_
      refine WA.no 21 rfl rfl (by kernel_rfl) rfl ?_
      refine WA.no 22 rfl rfl (by kernel_rfl) rfl ?_
      refine WA.no 23 rfl rfl (by kernel_rfl) rfl ?_
      refine WA.no 24 rfl rfl (by kernel_rfl) rfl ?_
      refine WA.no 25 rfl rfl (by kernel_rfl) rfl ?_
      refine WA.no 26 rfl rfl (by kernel_rfl) rfl ?_
      refine WA.takeP 27 rfl (RDP.of fun _ => RD.pickF rfl rfl) rfl (by kernel_rfl) rfl ?_
      refine WA.takeP 28 rfl (RDP.of fun _ => RD.pickF rfl rfl) rfl (by kernel_rfl) rfl ?_
      refine WA.done (by kernel_rfl) ?_
      refine JE.seqN ?_
      refine J.condF rfl ?_
      refine J.skip ?_
      refine JE.cutN ⟨?_, rfl, rfl⟩ ?_ ?_
      · trivial
      · exact (Sub.consE rfl (by first | rfl | (congr 1; omega) | (simp; done)) (Sub.consE rfl (by first | rfl | (congr 1; omega) | (simp; done)) .nil))
      · exact (SubM.cells rfl (by first | rfl | (simp; done)) (SubM.row rfl rfl (by first | rfl | (simp [iv, bv, yv, tv, sv]; done)) (SubM.ro rfl (by first | rfl | (simp [iv, bv, yv, tv, sv]; done)) .nil)))
  ·
   rintro _ _ ⟨-, rfl, rfl⟩
   refine J.seq ?_
   refine J.reg ?_
   refine WL.rd (RD.move rfl) rfl rfl ?_
   refine WL.efS (EF.callN (.cons rfl .nil) (fun w hS => DrawRemoveBar_c vb xb _ (by exact RdI.rd hS) (by omega))) rfl rfl ?_
   rintro x90 hx90
   have hrm := rmB_len x90.1 x90.2.1 x90.2.2.2 (m := 25) (by omega)
   refine WL.rd (RD.move rfl) rfl rfl ?_
   refine WL.rd (RD.extract rfl rfl) rfl rfl ?_
   refine WL.rd (RD.extract rfl rfl) rfl rfl ?_
   refine WL.efS (EF.allocA) rfl rfl ?_
   intro b10 _
   refine WL.efN (EF.storeA rfl rfl rfl rfl) rfl ?_
   rintro ⟨⟩ -
   refine WL.rd (RD.assign rfl) rfl rfl ?_
   refine WL.nil ?_
   refine JE.seqN ?_
   refine J.seq ?_
   refine J.reg ?_
   refine WL.rd (RD.loadA rfl rfl) rfl rfl ?_
   refine WL.rd (RD.move rfl) rfl rfl ?_
   refine WL.efS (EF.callN (.cons rfl (.cons rfl .nil)) (fun w hS => iRemoveBar_c _ _ _ _ _ (by exact RdI.rd hS) (by omega))) rfl rfl ?_
   rintro v96 -
   refine WL.rd (RD.move rfl) rfl rfl ?_
   refine WL.rd (RD.extract rfl rfl) rfl rfl ?_
   refine WL.rd (RD.extract rfl rfl) rfl rfl ?_
   refine WL.efS (EF.allocA) rfl rfl ?_
   intro b12 _
   refine WL.efN (EF.storeA rfl rfl rfl rfl) rfl ?_
   rintro ⟨⟩ -
   refine WL.rd (RD.assign rfl) rfl rfl ?_
   refine WL.nil ?_
   refine JE.seqN ?_
   refine J.seq ?_
   refine J.reg ?_
   refine WL.rd (RD.loadA rfl rfl) rfl rfl ?_
   refine WL.rd (RD.move rfl) rfl rfl ?_
   refine WL.efS (EF.callN (.cons rfl (.cons rfl .nil)) (fun w hS => sRemoveBar_c _ _ _ _ _ (by exact RdI.rd hS) (by omega))) rfl rfl ?_
   rintro v102 -
   refine WL.rd (RD.move rfl) rfl rfl ?_
   refine WL.rd (RD.extract rfl rfl) rfl rfl ?_
   refine WL.rd (RD.extract rfl rfl) rfl rfl ?_
   refine WL.efS (EF.allocA) rfl rfl ?_
   intro b14 _
   refine WL.efN (EF.storeA rfl rfl rfl rfl) rfl ?_
   rintro ⟨⟩ -
   refine WL.rd (RD.assign rfl) rfl rfl ?_
   refine WL.nil ?_
   refine JE.seqN ?_
   refine J.cut (fun ee mm => ((True)) ∧ ee = [(0, vb), (3, .pointer (some ⟨b3, 0, none⟩)), (10, .pointer (some ⟨b10, 0, none⟩)), (11, .int .i64 x90.2.2.2), (13, .bool (decide (isG x90.1 x90.2.1 ∧ 0 ≤ x90.2.2.2 ∧ x90.2.2.2 < x90.2.1.length))), (14, .pointer (some ⟨b14, 0, none⟩))] ∧ mm = [.cells b14 26 [.int .i64 x90.1, v102], .row v102 50 2 ((rmB x90.1 x90.2.1 x90.2.2.2).map bv), .cells b10 26 [.int .i64 x90.1, x90.2.2.1], .row x90.2.2.1 50 2 ((x90.2.1).map bv), .cells b3 26 [.int .i64 x41.1, x41.2.2.1], .row x41.2.2.1 50 2 ((x41.2.1).map bv), .ro vb 1 (xb.map yv)]) ?_ ?_
   ·
    refine J.seq ?_
    refine J.reg ?_
    refine WL.rd (RD.move rfl) rfl rfl ?_
    refine WL.rd (RD.move rfl) rfl rfl ?_
    refine WL.rd (RD.neqB rfl rfl) rfl rfl ?_
    refine WL.rd (RD.move rfl) rfl rfl ?_
    refine WL.case 108 rfl (fun hg108 => ?_) (fun hg108 => ?_)
    ·
     refine WL.noS rfl rfl ?_
     refine WL.noS rfl rfl ?_
     refine WL.noS rfl rfl ?_
     refine WL.noS rfl rfl ?_
     refine WL.rd (RD.pickT rfl rfl) rfl rfl ?_
     refine WL.nil ?_
     refine JE.seqN ?_
     refine J.condT rfl ?_
     refine J.seq ?_
     refine J.reg ?_
     refine WL.rd (RD.assign rfl) rfl rfl ?_
     refine WL.nil ?_
     refine JE.seqN ?_
     refine J.ret ?_
     refine JE.ret rfl (.tmp rfl .nil) (fun w hS => ?_)
     first | exact CS.fin hS rfl | (exfalso; omega) | exact CS.fin hS (by simp_all)
    ·
     refine WL.rd (RD.loadA rfl rfl) rfl rfl ?_
     refine WL.rd (RD.loadA rfl rfl) rfl rfl ?_
     refine WL.efS (EF.callS (.cons rfl (.cons rfl .nil)) (fun w hS => sEqualGraphs_c _ _ _ _ _ _ _ (by exact RdI.rd hS) (by exact RdI.rd hS))) rfl rfl ?_
     rintro ⟨⟩ -
     refine WL.rd (RD.notP rfl) rfl rfl ?_
     refine WL.rd (RD.pickF rfl rfl) rfl rfl ?_
     refine WL.nil ?_
     refine JE.seqN ?_
     refine J.condP rfl (fun hc113 => ?_) (fun hc113 => ?_)
     ·
      refine J.seq ?_
      refine J.reg ?_
      refine WL.rd (RD.assign rfl) rfl rfl ?_
      refine WL.nil ?_
      refine JE.seqN ?_
      refine J.ret ?_
      refine JE.ret rfl (.tmp rfl .nil) (fun w hS => ?_)
      first | exact CS.fin hS rfl | (exfalso; omega) | exact CS.fin hS (by simp_all)
     ·
      refine J.skip ?_
      refine JE.cutN ⟨?_, rfl, rfl⟩ ?_ ?_
      · trivial
      · exact (Sub.consE rfl (by first | rfl | (congr 1; omega) | (simp; done)) (Sub.consE rfl (by first | rfl | (congr 1; omega) | (simp; done)) (Sub.consE rfl (by first | rfl | (congr 1; omega) | (simp; done)) (Sub.consE rfl (by first | rfl | (congr 1; omega) | (simp; done)) (Sub.consE rfl (by first | rfl | (congr 1; omega) | (simp; done)) (Sub.consE rfl (by first | rfl | (congr 1; omega) | (simp; done)) .nil))))))
      · exact (SubM.cells rfl (by first | rfl | (simp; done)) (SubM.row rfl rfl (by first | rfl | (simp [iv, bv, yv, tv, sv]; done)) (SubM.cells rfl (by first | rfl | (simp; done)) (SubM.row rfl rfl (by first | rfl | (simp [iv, bv, yv, tv, sv]; done)) (SubM.cells rfl (by first | rfl | (simp; done)) (SubM.row rfl rfl (by first | rfl | (simp [iv, bv, yv, tv, sv]; done)) (SubM.ro rfl (by first | rfl | (simp [iv, bv, yv, tv, sv]; done)) .nil)))))))
   ·
    rintro _ _ ⟨-, rfl, rfl⟩
    refine J.cut (fun ee mm => ((True)) ∧ ee = [(0, vb), (3, .pointer (some ⟨b3, 0, none⟩))] ∧ mm = [.cells b3 26 [.int .i64 x41.1, x41.2.2.1], .row x41.2.2.1 50 2 ((x41.2.1).map bv), .ro vb 1 (xb.map yv)]) ?_ ?_
    ·
     refine J.seq ?_
     refine J.reg ?_
     refine WL.rd (RD.move rfl) rfl rfl ?_
     refine WL.nil ?_
     refine JE.seqN ?_
     refine J.condP rfl (fun hc114 => ?_) (fun hc114 => ?_)
     ·
      obtain ⟨hb1, hb2⟩ := back_ad hc114
      refine J.seq ?_
      refine J.anyAll [] ?_
      refine WA.take 0 rfl (RD.loadA rfl rfl) rfl (by kernel_rfl) rfl ?_
      refine WA.takeP 1 rfl (RDP.of fun _ => RD.fieldC rfl rfl) rfl (by kernel_rfl) rfl ?_
      refine WA.take 2 rfl (RD.loadC rfl rfl) rfl (by kernel_rfl) rfl ?_
      refine WA.takeP 3 rfl (RDP.of fun _ => RD.move rfl) rfl (by kernel_rfl) rfl ?_
      refine WA.takeP 4 rfl (RDP.idx (j := x90.2.2.2.toNat) (hj := ⟨by omega⟩) rfl rfl (by omega) rfl) rfl (by kernel_rfl) rfl ?_
      refine WA.takeP 5 rfl (RDP.of fun _ => RD.fieldE rfl rfl) rfl (by kernel_rfl) rfl ?_
      refine WA.take 6 rfl (RD.loadE rfl (by omega) rfl) rfl (by kernel_rfl) rfl ?_
      refine WA.takeP 7 rfl (RDP.of fun _ => RD.fieldC rfl rfl) rfl (by kernel_rfl) rfl ?_
      refine WA.take 8 rfl (RD.loadC rfl rfl) rfl (by kernel_rfl) rfl ?_
      refine WA.takeP 9 rfl (RDP.of fun _ => RD.move rfl) rfl (by kernel_rfl) rfl ?_
      refine WA.takeP 10 rfl (RDP.idx (j := x90.2.2.2.toNat) (hj := ⟨by omega⟩) rfl rfl (by omega) rfl) rfl (by kernel_rfl) rfl ?_
      refine WA.takeP 11 rfl (RDP.of fun _ => RD.fieldE rfl rfl) rfl (by kernel_rfl) rfl ?_
      refine WA.take 12 rfl (RD.loadE rfl (by omega) rfl) rfl (by kernel_rfl) rfl ?_
      refine WA.two (i := 13) (j := 17) (by kernel_rfl) ?_ ?_
      ·
       refine WAi.efS rfl (EF.callN (.cons rfl (.cons rfl (.cons rfl .nil))) (fun w hS => iAddBar_c _ _ _ _ _ _ (by exact RdI.rd hS) (by omega))) rfl rfl (fun _ => by repeat (first | exact subM_refl _ | refine subM_app _ ?_ | refine subM_con _ ?_)) ?_
       rintro v129 -
       refine WA.takeP 14 rfl (RDP.of fun _ => RD.move rfl) rfl (by kernel_rfl) rfl ?_
       refine WA.takeP 15 rfl (RDP.of fun _ => RD.extract rfl rfl) rfl (by kernel_rfl) rfl ?_
       refine WA.takeP 16 rfl (RDP.of fun _ => RD.extract rfl rfl) rfl (by kernel_rfl) rfl ?_
       refine WA.one (i := 17) (by kernel_rfl) ?_
       refine WAi.efS rfl (by exact EF.allocA) rfl rfl (fun _ => by repeat (first | exact subM_refl _ | refine subM_app _ ?_ | refine subM_con _ ?_)) ?_
       intro b16 _
       refine WA.one (i := 18) (by kernel_rfl) ?_
       refine WAi.efN rfl (EF.storeA rfl rfl rfl rfl) rfl (fun _ => by repeat (first | exact subM_refl _ | refine subM_app _ ?_ | refine subM_con _ ?_)) ?_
       rintro ⟨⟩ -
       refine WA.takeP 19 rfl (RDP.of fun _ => RD.assign rfl) rfl (by kernel_rfl) rfl ?_
       refine WA.done (by kernel_rfl) ?_
       refine JE.seqN ?_
       refine J.seq ?_
       refine J.reg ?_
       refine WL.rd (RD.move rfl) rfl rfl ?_
       refine WL.rd (RD.notP rfl) rfl rfl ?_
       refine WL.rd (RD.move rfl) rfl rfl ?_
       refine WL.caseP 134 rfl (fun hg134 => ?_) (fun hg134 => ?_)
       ·
        exfalso
        exact hg134 hb1
       ·
        refine WL.rd (RD.loadA rfl rfl) rfl rfl ?_
        refine WL.rd (RD.loadA rfl rfl) rfl rfl ?_
        refine WL.efS (EF.callS (.cons rfl (.cons rfl .nil)) (fun w hS => sEqualGraphs_c _ _ _ _ _ _ _ (by exact RdI.rd hS) (by exact RdI.rd hS))) rfl rfl ?_
        rintro ⟨⟩ -
        refine WL.rd (RD.notP rfl) rfl rfl ?_
        refine WL.rd (RD.pickF rfl rfl) rfl rfl ?_
        refine WL.nil ?_
        refine JE.seqN ?_
        refine J.condP rfl (fun hc139 => ?_) (fun hc139 => ?_)
        ·
         refine J.seq ?_
         refine J.reg ?_
         refine WL.rd (RD.assign rfl) rfl rfl ?_
         refine WL.nil ?_
         refine JE.seqN ?_
         refine J.ret ?_
         refine JE.ret rfl (.tmp rfl .nil) (fun w hS => ?_)
         first | exact CS.fin hS rfl | (exfalso; omega) | exact CS.fin hS (by simp_all)
        ·
         refine J.skip ?_
         refine JE.cutN ⟨?_, rfl, rfl⟩ ?_ ?_
         · trivial
         · exact (Sub.consE rfl (by first | rfl | (congr 1; omega) | (simp; done)) (Sub.consE rfl (by first | rfl | (congr 1; omega) | (simp; done)) .nil))
         · exact (SubM.cells rfl (by first | rfl | (simp; done)) (SubM.row rfl rfl (by first | rfl | (simp [iv, bv, yv, tv, sv]; done)) (SubM.ro rfl (by first | rfl | (simp [iv, bv, yv, tv, sv]; done)) .nil)))
      ·
       refine WAi.efS rfl (by exact EF.allocA) rfl rfl (fun _ => by repeat (first | exact subM_refl _ | refine subM_app _ ?_ | refine subM_con _ ?_)) ?_
       intro b16 _
       refine WA.one (i := 13) (by kernel_rfl) ?_
       refine WAi.efS rfl (EF.callN (.cons rfl (.cons rfl (.cons rfl .nil))) (fun w hS => iAddBar_c _ _ _ _ _ _ (by exact RdI.rd hS) (by omega))) rfl rfl (fun _ => by repeat (first | exact subM_refl _ | refine subM_app _ ?_ | refine subM_con _ ?_)) ?_
       rintro v129 -
       refine WA.takeP 14 rfl (RDP.of fun _ => RD.move rfl) rfl (by kernel_rfl) rfl ?_
       refine WA.takeP 15 rfl (RDP.of fun _ => RD.extract rfl rfl) rfl (by kernel_rfl) rfl ?_
       refine WA.takeP 16 rfl (RDP.of fun _ => RD.extract rfl rfl) rfl (by kernel_rfl) rfl ?_
       refine WA.one (i := 18) (by kernel_rfl) ?_
       refine WAi.efN rfl (EF.storeA rfl rfl rfl rfl) rfl (fun _ => by repeat (first | exact subM_refl _ | refine subM_app _ ?_ | refine subM_con _ ?_)) ?_
       rintro ⟨⟩ -
       refine WA.takeP 19 rfl (RDP.of fun _ => RD.assign rfl) rfl (by kernel_rfl) rfl ?_
       refine WA.done (by kernel_rfl) ?_
       refine JE.seqN ?_
       refine J.seq ?_
       refine J.reg ?_
       refine WL.rd (RD.move rfl) rfl rfl ?_
       refine WL.rd (RD.notP rfl) rfl rfl ?_
       refine WL.rd (RD.move rfl) rfl rfl ?_
       refine WL.caseP 134 rfl (fun hg134 => ?_) (fun hg134 => ?_)
       ·
        exfalso
        exact hg134 hb1
       ·
        refine WL.rd (RD.loadA rfl rfl) rfl rfl ?_
        refine WL.rd (RD.loadA rfl rfl) rfl rfl ?_
        refine WL.efS (EF.callS (.cons rfl (.cons rfl .nil)) (fun w hS => sEqualGraphs_c _ _ _ _ _ _ _ (by exact RdI.rd hS) (by exact RdI.rd hS))) rfl rfl ?_
        rintro ⟨⟩ -
        refine WL.rd (RD.notP rfl) rfl rfl ?_
        refine WL.rd (RD.pickF rfl rfl) rfl rfl ?_
        refine WL.nil ?_
        refine JE.seqN ?_
        refine J.condP rfl (fun hc139 => ?_) (fun hc139 => ?_)
        ·
         refine J.seq ?_
         refine J.reg ?_
         refine WL.rd (RD.assign rfl) rfl rfl ?_
         refine WL.nil ?_
         refine JE.seqN ?_
         refine J.ret ?_
         refine JE.ret rfl (.tmp rfl .nil) (fun w hS => ?_)
         first | exact CS.fin hS rfl | (exfalso; omega) | exact CS.fin hS (by simp_all)
        ·
         refine J.skip ?_
         refine JE.cutN ⟨?_, rfl, rfl⟩ ?_ ?_
         · trivial
         · exact (Sub.consE rfl (by first | rfl | (congr 1; omega) | (simp; done)) (Sub.consE rfl (by first | rfl | (congr 1; omega) | (simp; done)) .nil))
         · exact (SubM.cells rfl (by first | rfl | (simp; done)) (SubM.row rfl rfl (by first | rfl | (simp [iv, bv, yv, tv, sv]; done)) (SubM.ro rfl (by first | rfl | (simp [iv, bv, yv, tv, sv]; done)) .nil)))
     ·
      refine J.skip ?_
      refine JE.cutN ⟨?_, rfl, rfl⟩ ?_ ?_
      · trivial
      · exact (Sub.consE rfl (by first | rfl | (congr 1; omega) | (simp; done)) (Sub.consE rfl (by first | rfl | (congr 1; omega) | (simp; done)) .nil))
      · exact (SubM.cells rfl (by first | rfl | (simp; done)) (SubM.row rfl rfl (by first | rfl | (simp [iv, bv, yv, tv, sv]; done)) (SubM.ro rfl (by first | rfl | (simp [iv, bv, yv, tv, sv]; done)) .nil)))
    ·
     rintro _ _ ⟨-, rfl, rfl⟩
     refine J.seq ?_
     refine J.reg ?_
     refine WL.rd (RD.loadA rfl rfl) rfl rfl ?_
     refine WL.efS (EF.callS (.cons rfl .nil) (fun w hS => iFormatGraph_c _ _ _ _ (by exact RdI.rd hS))) rfl rfl ?_
     rintro ⟨⟩ -
     refine WL.rd (RD.assign rfl) rfl rfl ?_
     refine WL.nil ?_
     refine JE.seqN ?_
     refine J.seq ?_
     have hfl := fmtG_len x41.1 x41.2.1
     refine J.reg ?_
     refine WL.rd (RD.move rfl) rfl rfl ?_
     refine WL.efS (EF.callN (.cons rfl .nil) (fun w hS => iParseGraph_c _ _ (by omega))) rfl rfl ?_
     rintro v144 -
     refine WL.rd (RD.move rfl) rfl rfl ?_
     refine WL.rd (RD.extract rfl rfl) rfl rfl ?_
     refine WL.rd (RD.extract rfl rfl) rfl rfl ?_
     refine WL.efS (EF.allocA) rfl rfl ?_
     intro b19 _
     refine WL.efN (EF.storeA rfl rfl rfl rfl) rfl ?_
     rintro ⟨⟩ -
     refine WL.rd (RD.assign rfl) rfl rfl ?_
     refine WL.nil ?_
     refine JE.seqN ?_
     refine J.seq ?_
     refine J.reg ?_
     refine WL.rd (RD.move rfl) rfl rfl ?_
     refine WL.efS (EF.callN (.cons rfl .nil) (fun w hS => DrawParseGraph_c vb xb _ (by exact RdI.rd hS) (by omega))) rfl rfl ?_
     rintro x148 hx148
     refine WL.rd (RD.assign rfl) rfl rfl ?_
     refine WL.nil ?_
     refine JE.seqN ?_
     refine J.seq ?_
     refine J.reg ?_
     refine WL.rd (RD.move rfl) rfl rfl ?_
     refine WL.efS (EF.callN (.cons rfl .nil) (fun w hS => iParseGraph_c _ _ (by omega))) rfl rfl ?_
     rintro v151 -
     refine WL.rd (RD.move rfl) rfl rfl ?_
     refine WL.rd (RD.extract rfl rfl) rfl rfl ?_
     refine WL.rd (RD.extract rfl rfl) rfl rfl ?_
     refine WL.efS (EF.allocA) rfl rfl ?_
     intro b22 _
     refine WL.efN (EF.storeA rfl rfl rfl rfl) rfl ?_
     rintro ⟨⟩ -
     refine WL.rd (RD.assign rfl) rfl rfl ?_
     refine WL.nil ?_
     refine JE.seqN ?_
     refine J.seq ?_
     refine J.reg ?_
     refine WL.rd (RD.move rfl) rfl rfl ?_
     refine WL.efS (EF.callN (.cons rfl .nil) (fun w hS => sParseGraph_c _ _ (by omega))) rfl rfl ?_
     rintro v156 -
     refine WL.rd (RD.move rfl) rfl rfl ?_
     refine WL.rd (RD.extract rfl rfl) rfl rfl ?_
     refine WL.rd (RD.extract rfl rfl) rfl rfl ?_
     refine WL.efS (EF.allocA) rfl rfl ?_
     intro b24 _
     refine WL.efN (EF.storeA rfl rfl rfl rfl) rfl ?_
     rintro ⟨⟩ -
     refine WL.rd (RD.assign rfl) rfl rfl ?_
     refine WL.nil ?_
     refine JE.seqN ?_
     refine J.seq ?_
     refine J.dropRow v151 ?_
     refine J.dropCells b22 ?_
     refine J.dropRow v156 ?_
     refine J.dropCells b24 ?_
     refine J.reg ?_
     refine WL.rd (RD.move rfl) rfl rfl ?_
     refine WL.efS (EF.callN (.cons rfl .nil) (fun w hS => DrawCountBar_c vb xb _ (by exact RdI.rd hS) (by omega))) rfl rfl ?_
     rintro x161 hx161
     refine WL.rd (RD.move rfl) rfl rfl ?_
     refine WL.rd (RD.extract rfl rfl) rfl rfl ?_
     refine WL.rd (RD.extract rfl rfl) rfl rfl ?_
     refine WL.rd (RD.extract rfl rfl) rfl rfl ?_
     refine WL.efS (EF.allocA) rfl rfl ?_
     intro b26 _
     refine WL.efN (EF.storeA rfl rfl rfl rfl) rfl ?_
     rintro ⟨⟩ -
     refine WL.rd (RD.assign rfl) rfl rfl ?_
     refine WL.rd (RD.assign rfl) rfl rfl ?_
     refine WL.nil ?_
     refine JE.seqN ?_
     refine J.seq ?_
     refine J.reg ?_
     refine WL.rd (RD.move rfl) rfl rfl ?_
     refine WL.efS (EF.callN (.cons rfl .nil) (fun w hS => DrawEqualGraphs_c vb xb _ (by exact RdI.rd hS) (by omega))) rfl rfl ?_
     rintro x167 hx167
     refine WL.rd (RD.move rfl) rfl rfl ?_
     refine WL.rd (RD.extract rfl rfl) rfl rfl ?_
     refine WL.rd (RD.extract rfl rfl) rfl rfl ?_
     refine WL.efS (EF.allocA) rfl rfl ?_
     intro b29 _
     refine WL.efS (EF.allocA) rfl rfl ?_
     intro b30 _
     refine WL.efN (EF.storeA rfl rfl rfl rfl) rfl ?_
     rintro ⟨⟩ -
     refine WL.efN (EF.storeA rfl rfl rfl rfl) rfl ?_
     rintro ⟨⟩ -
     refine WL.nil ?_
     refine JE.seqN ?_
     refine J.seq ?_
     refine J.reg ?_
     refine WL.rd (RD.move rfl) rfl rfl ?_
     refine WL.efS (EF.callN (.cons rfl .nil) (fun w hS => DrawCompleteGraph_c vb xb _ (by exact RdI.rd hS) (by omega))) rfl rfl ?_
     rintro x171 hx171
     refine WL.rd (RD.assign rfl) rfl rfl ?_
     refine WL.nil ?_
     refine JE.seqN ?_
     refine J.seq ?_
     refine J.reg ?_
     refine WL.rd (RD.move rfl) rfl rfl ?_
     refine WL.efS (EF.callN (.cons rfl .nil) (fun w hS => DrawReachOf_c vb xb _ (by exact RdI.rd hS) (by omega))) rfl rfl ?_
     rintro x174 hx174
     refine WL.rd (RD.move rfl) rfl rfl ?_
     refine WL.rd (RD.extract rfl rfl) rfl rfl ?_
     refine WL.rd (RD.extract rfl rfl) rfl rfl ?_
     refine WL.efS (EF.allocA) rfl rfl ?_
     intro b32 _
     refine WL.efN (EF.storeA rfl rfl rfl rfl) rfl ?_
     rintro ⟨⟩ -
     refine WL.rd (RD.assign rfl) rfl rfl ?_
     refine WL.nil ?_
     refine JE.seqN ?_
     refine J.seq ?_
     refine J.reg ?_
     refine WL.rd (RD.loadA rfl rfl) rfl rfl ?_
     refine WL.rd (RD.move rfl) rfl rfl ?_
     refine WL.efS (EF.callN (.cons rfl (.cons rfl .nil)) (fun w hS => iReachOf_c _ _ _ _ _ (by exact RdI.rd hS))) rfl rfl ?_
     rintro v179 -
     refine WL.rd (RD.assign rfl) rfl rfl ?_
     refine WL.nil ?_
     refine JE.seqN ?_
     refine J.seq ?_
     refine J.reg ?_
     refine WL.rd (RD.move rfl) rfl rfl ?_
     refine WL.efS (EF.callN (.cons rfl .nil) (fun w hS => DrawOnlyBars_c vb xb _ (by exact RdI.rd hS) (by omega))) rfl rfl ?_
     rintro x182 hx182
     refine WL.rd (RD.move rfl) rfl rfl ?_
     refine WL.rd (RD.extract rfl rfl) rfl rfl ?_
     refine WL.rd (RD.extract rfl rfl) rfl rfl ?_
     refine WL.efS (EF.allocA) rfl rfl ?_
     intro b35 _
     refine WL.efN (EF.storeA rfl rfl rfl rfl) rfl ?_
     rintro ⟨⟩ -
     refine WL.rd (RD.assign rfl) rfl rfl ?_
     refine WL.nil ?_
     refine JE.seqN ?_
     refine J.cut (fun ee mm => ((True)) ∧ ee = [(3, .pointer (some ⟨b3, 0, none⟩)), (18, .string (bs (fmtG x41.1 x41.2.1))), (19, .pointer (some ⟨b19, 0, none⟩)), (20, .bool (parseG (fmtG x41.1 x41.2.1)).isSome), (23, .bool (parseG x148).isSome), (25, .bool (parseG x148).isSome), (26, .pointer (some ⟨b26, 0, none⟩)), (29, .pointer (some ⟨b29, 0, none⟩)), (30, .pointer (some ⟨b30, 0, none⟩))] ∧ mm = [.cells b30 26 [.int .i64 x167.2.2.2.1, x167.2.2.2.2.2], .cells b29 26 [.int .i64 x167.1, x167.2.2.1], .row x167.2.2.2.2.2 50 2 ((x167.2.2.2.2.1).map bv), .row x167.2.2.1 50 2 ((x167.2.1).map bv), .cells b26 26 [.int .i64 x161.1, x161.2.2.1], .row x161.2.2.1 50 2 ((x161.2.1).map bv), .cells b19 26 [.int .i64 (gN (fmtG x41.1 x41.2.1)), v144], .row v144 50 2 ((gX (fmtG x41.1 x41.2.1)).map bv), .cells b3 26 [.int .i64 x41.1, x41.2.2.1], .row x41.2.2.1 50 2 ((x41.2.1).map bv), .ro vb 1 (xb.map yv)]) ?_ ?_
     ·
      refine J.seq ?_
      refine J.anyAll [] ?_
      refine WA.take 0 rfl (RD.loadA rfl rfl) rfl (by kernel_rfl) rfl ?_
      refine WA.takeP 1 rfl (RDP.of fun _ => RD.move rfl) rfl (by kernel_rfl) rfl ?_
      refine WA.takeP 2 rfl (RDP.of fun _ => RD.move rfl) rfl (by kernel_rfl) rfl ?_
      refine WA.take 4 rfl (RD.loadA rfl rfl) rfl (by kernel_rfl) rfl ?_
      refine WA.takeP 5 rfl (RDP.of fun _ => RD.move rfl) rfl (by kernel_rfl) rfl ?_
      refine WA.takeP 6 rfl (RDP.of fun _ => RD.move rfl) rfl (by kernel_rfl) rfl ?_
      refine WA.one (i := 3) (by kernel_rfl) ?_
      refine WAi.efS rfl (EF.callS (.cons rfl (.cons rfl (.cons rfl .nil))) (fun w hS => iCountBar_c _ _ _ _ _ _ (by exact RdI.rd hS))) rfl rfl (fun _ => by repeat (first | exact subM_refl _ | refine subM_app _ ?_ | refine subM_con _ ?_)) ?_
      rintro ⟨⟩ -
      refine WA.one (i := 7) (by kernel_rfl) ?_
      refine WAi.efS rfl (EF.callS (.cons rfl (.cons rfl (.cons rfl .nil))) (fun w hS => sCountBar_c _ _ _ _ _ _ (by exact RdI.rd hS))) rfl rfl (fun _ => by repeat (first | exact subM_refl _ | refine subM_app _ ?_ | refine subM_con _ ?_)) ?_
      rintro ⟨⟩ -
      refine WA.takeP 8 rfl (RDP.of fun _ => RD.neq rfl rfl) rfl (by kernel_rfl) rfl ?_
      refine WA.takeP 9 rfl (RDP.of fun _ => RD.move rfl) rfl (by kernel_rfl) rfl ?_
      refine WA.caseP 194 rfl (fun hg194 => ?_) (fun hg194 => ?_)
      ·
       refine WA.no 10 rfl rfl (by kernel_rfl) rfl ?_
       refine WA.no 11 rfl rfl (by kernel_rfl) rfl ?_
       refine WA.no 12 rfl rfl (by kernel_rfl) rfl ?_
       refine WA.no 13 rfl rfl (by kernel_rfl) rfl ?_
       refine WA.no 14 rfl rfl (by kernel_rfl) rfl ?_
       refine WA.no 15 rfl rfl (by kernel_rfl) rfl ?_
       refine WA.takeP 16 rfl (RDP.of fun _ => RD.pickT rfl rfl) rfl (by kernel_rfl) rfl ?_
       refine WA.takeP 17 rfl (RDP.of fun _ => RD.move rfl) rfl (by kernel_rfl) rfl ?_
       refine WA.no 18 rfl rfl (by kernel_rfl) rfl ?_
       refine WA.no 19 rfl rfl (by kernel_rfl) rfl ?_
       refine WA.no 20 rfl rfl (by kernel_rfl) rfl ?_
       refine WA.no 21 rfl rfl (by kernel_rfl) rfl ?_
       refine WA.no 22 rfl rfl (by kernel_rfl) rfl ?_
       refine WA.no 23 rfl rfl (by kernel_rfl) rfl ?_
       refine WA.takeP 24 rfl (RDP.of fun _ => RD.pickT rfl rfl) rfl (by kernel_rfl) rfl ?_
       refine WA.takeP 25 rfl (RDP.of fun _ => RD.move rfl) rfl (by kernel_rfl) rfl ?_
       refine WA.no 26 rfl rfl (by kernel_rfl) rfl ?_
       refine WA.no 27 rfl rfl (by kernel_rfl) rfl ?_
       refine WA.no 28 rfl rfl (by kernel_rfl) rfl ?_
       refine WA.no 29 rfl rfl (by kernel_rfl) rfl ?_
       refine WA.no 30 rfl rfl (by kernel_rfl) rfl ?_
       refine WA.no 31 rfl rfl (by kernel_rfl) rfl ?_
       refine WA.no 32 rfl rfl (by kernel_rfl) rfl ?_
       refine WA.takeP 33 rfl (RDP.of fun _ => RD.pickT rfl rfl) rfl (by kernel_rfl) rfl ?_
       refine WA.takeP 34 rfl (RDP.of fun _ => RD.move rfl) rfl (by kernel_rfl) rfl ?_
       refine WA.no 35 rfl rfl (by kernel_rfl) rfl ?_
       refine WA.no 36 rfl rfl (by kernel_rfl) rfl ?_
       refine WA.no 37 rfl rfl (by kernel_rfl) rfl ?_
       refine WA.no 38 rfl rfl (by kernel_rfl) rfl ?_
       refine WA.no 39 rfl rfl (by kernel_rfl) rfl ?_
       refine WA.no 40 rfl rfl (by kernel_rfl) rfl ?_
       refine WA.no 41 rfl rfl (by kernel_rfl) rfl ?_
       refine WA.no 42 rfl rfl (by kernel_rfl) rfl ?_
       refine WA.takeP 43 rfl (RDP.of fun _ => RD.pickT rfl rfl) rfl (by kernel_rfl) rfl ?_
       refine WA.takeP 44 rfl (RDP.of fun _ => RD.move rfl) rfl (by kernel_rfl) rfl ?_
       refine WA.no 45 rfl rfl (by kernel_rfl) rfl ?_
       refine WA.no 46 rfl rfl (by kernel_rfl) rfl ?_
       refine WA.no 47 rfl rfl (by kernel_rfl) rfl ?_
       refine WA.no 48 rfl rfl (by kernel_rfl) rfl ?_
       refine WA.no 49 rfl rfl (by kernel_rfl) rfl ?_
       refine WA.takeP 50 rfl (RDP.of fun _ => RD.pickT rfl rfl) rfl (by kernel_rfl) rfl ?_
       refine WA.done (by kernel_rfl) ?_
       refine JE.seqN ?_
       refine J.condT rfl ?_
       refine J.seq ?_
       refine J.reg ?_
       refine WL.rd (RD.assign rfl) rfl rfl ?_
       refine WL.nil ?_
       refine JE.seqN ?_
       refine J.ret ?_
       refine JE.ret rfl (.tmp rfl .nil) (fun w hS => ?_)
       first | exact CS.fin hS rfl | (exfalso; omega) | exact CS.fin hS (by simp_all [mkRes])
      ·
       refine WA.takeP 10 rfl (RDP.of fun _ => RD.move rfl) rfl (by kernel_rfl) rfl ?_
       refine WA.takeP 12 rfl (RDP.of fun _ => RD.move rfl) rfl (by kernel_rfl) rfl ?_
       refine WA.one (i := 11) (by kernel_rfl) ?_
       refine WAi.efS rfl (EF.callN (.cons rfl .nil) (fun w hS => iCompleteGraph_c _ _)) rfl rfl (fun _ => by repeat (first | exact subM_refl _ | refine subM_app _ ?_ | refine subM_con _ ?_)) ?_
       rintro v196 -
       refine WA.one (i := 13) (by kernel_rfl) ?_
       refine WAi.efS rfl (EF.callN (.cons rfl .nil) (fun w hS => sCompleteGraph_c _ _)) rfl rfl (fun _ => by repeat (first | exact subM_refl _ | refine subM_app _ ?_ | refine subM_con _ ?_)) ?_
       rintro v198 -
       refine WA.one (i := 14) (by kernel_rfl) ?_
       refine WAi.efS rfl (EF.callS (.cons rfl (.cons rfl .nil)) (fun w hS => sEqualGraphs_c _ _ _ _ _ _ _ (by exact RdI.rd hS) (by exact RdI.rd hS))) rfl rfl (fun _ => by repeat (first | exact subM_refl _ | refine subM_app _ ?_ | refine subM_con _ ?_)) ?_
       rintro ⟨⟩ -
       refine WA.takeP 15 rfl (RDP.of fun _ => RD.notP rfl) rfl (by kernel_rfl) rfl ?_
       refine WA.takeP 16 rfl (RDP.of fun _ => RD.pickF rfl rfl) rfl (by kernel_rfl) rfl ?_
       refine WA.takeP 17 rfl (RDP.of fun _ => RD.move rfl) rfl (by kernel_rfl) rfl ?_
       refine WA.caseP 202 rfl (fun hg202 => ?_) (fun hg202 => ?_)
       ·
        refine WA.no 18 rfl rfl (by kernel_rfl) rfl ?_
        refine WA.no 19 rfl rfl (by kernel_rfl) rfl ?_
        refine WA.no 20 rfl rfl (by kernel_rfl) rfl ?_
        refine WA.no 21 rfl rfl (by kernel_rfl) rfl ?_
        refine WA.no 22 rfl rfl (by kernel_rfl) rfl ?_
        refine WA.no 23 rfl rfl (by kernel_rfl) rfl ?_
        refine WA.takeP 24 rfl (RDP.of fun _ => RD.pickT rfl rfl) rfl (by kernel_rfl) rfl ?_
        refine WA.takeP 25 rfl (RDP.of fun _ => RD.move rfl) rfl (by kernel_rfl) rfl ?_
        refine WA.no 26 rfl rfl (by kernel_rfl) rfl ?_
        refine WA.no 27 rfl rfl (by kernel_rfl) rfl ?_
        refine WA.no 28 rfl rfl (by kernel_rfl) rfl ?_
        refine WA.no 29 rfl rfl (by kernel_rfl) rfl ?_
        refine WA.no 30 rfl rfl (by kernel_rfl) rfl ?_
        refine WA.no 31 rfl rfl (by kernel_rfl) rfl ?_
        refine WA.no 32 rfl rfl (by kernel_rfl) rfl ?_
        refine WA.takeP 33 rfl (RDP.of fun _ => RD.pickT rfl rfl) rfl (by kernel_rfl) rfl ?_
        refine WA.takeP 34 rfl (RDP.of fun _ => RD.move rfl) rfl (by kernel_rfl) rfl ?_
        refine WA.no 35 rfl rfl (by kernel_rfl) rfl ?_
        refine WA.no 36 rfl rfl (by kernel_rfl) rfl ?_
        refine WA.no 37 rfl rfl (by kernel_rfl) rfl ?_
        refine WA.no 38 rfl rfl (by kernel_rfl) rfl ?_
        refine WA.no 39 rfl rfl (by kernel_rfl) rfl ?_
        refine WA.no 40 rfl rfl (by kernel_rfl) rfl ?_
        refine WA.no 41 rfl rfl (by kernel_rfl) rfl ?_
        refine WA.no 42 rfl rfl (by kernel_rfl) rfl ?_
        refine WA.takeP 43 rfl (RDP.of fun _ => RD.pickT rfl rfl) rfl (by kernel_rfl) rfl ?_
        refine WA.takeP 44 rfl (RDP.of fun _ => RD.move rfl) rfl (by kernel_rfl) rfl ?_
        refine WA.no 45 rfl rfl (by kernel_rfl) rfl ?_
        refine WA.no 46 rfl rfl (by kernel_rfl) rfl ?_
        refine WA.no 47 rfl rfl (by kernel_rfl) rfl ?_
        refine WA.no 48 rfl rfl (by kernel_rfl) rfl ?_
        refine WA.no 49 rfl rfl (by kernel_rfl) rfl ?_
        refine WA.takeP 50 rfl (RDP.of fun _ => RD.pickT rfl rfl) rfl (by kernel_rfl) rfl ?_
        refine WA.done (by kernel_rfl) ?_
        refine JE.seqN ?_
        refine J.condT rfl ?_
        refine J.seq ?_
        refine J.reg ?_
        refine WL.rd (RD.assign rfl) rfl rfl ?_
        refine WL.nil ?_
        refine JE.seqN ?_
        refine J.ret ?_
        refine JE.ret rfl (.tmp rfl .nil) (fun w hS => ?_)
        first | exact CS.fin hS rfl | (exfalso; omega) | exact CS.fin hS (by simp_all)
       ·
        refine WA.takeP 18 rfl (RDP.of fun _ => RD.move rfl) rfl (by kernel_rfl) rfl ?_
        refine WA.take 19 rfl (RD.loadA rfl rfl) rfl (by kernel_rfl) rfl ?_
        refine WA.takeP 20 rfl (RDP.of fun _ => RD.move rfl) rfl (by kernel_rfl) rfl ?_
        refine WA.one (i := 21) (by kernel_rfl) ?_
        refine WAi.efS rfl (EF.callN (.cons rfl (.cons rfl .nil)) (fun w hS => sReachOf_c _ _ _ _ _ (by exact RdI.rd hS))) rfl rfl (fun _ => by repeat (first | exact subM_refl _ | refine subM_app _ ?_ | refine subM_con _ ?_)) ?_
        rintro v206 -
        refine WA.one (i := 22) (by kernel_rfl) ?_
        refine WAi.efS rfl (EF.callS (.cons rfl (.cons rfl .nil)) (fun w hS => sameInts_c _ _ _ _ _ (by exact RdI.rd hS) (by exact RdI.rd hS))) rfl rfl (fun _ => by repeat (first | exact subM_refl _ | refine subM_app _ ?_ | refine subM_con _ ?_)) ?_
        rintro ⟨⟩ -
        refine WA.takeP 23 rfl (RDP.of fun _ => RD.notP rfl) rfl (by kernel_rfl) rfl ?_
        refine WA.takeP 24 rfl (RDP.of fun _ => RD.pickF rfl rfl) rfl (by kernel_rfl) rfl ?_
        refine WA.takeP 25 rfl (RDP.of fun _ => RD.move rfl) rfl (by kernel_rfl) rfl ?_
        refine WA.caseP 210 rfl (fun hg210 => ?_) (fun hg210 => ?_)
        ·
         refine WA.no 26 rfl rfl (by kernel_rfl) rfl ?_
         refine WA.no 27 rfl rfl (by kernel_rfl) rfl ?_
         refine WA.no 28 rfl rfl (by kernel_rfl) rfl ?_
         refine WA.no 29 rfl rfl (by kernel_rfl) rfl ?_
         refine WA.no 30 rfl rfl (by kernel_rfl) rfl ?_
         refine WA.no 31 rfl rfl (by kernel_rfl) rfl ?_
         refine WA.no 32 rfl rfl (by kernel_rfl) rfl ?_
         refine WA.takeP 33 rfl (RDP.of fun _ => RD.pickT rfl rfl) rfl (by kernel_rfl) rfl ?_
         refine WA.takeP 34 rfl (RDP.of fun _ => RD.move rfl) rfl (by kernel_rfl) rfl ?_
         refine WA.no 35 rfl rfl (by kernel_rfl) rfl ?_
         refine WA.no 36 rfl rfl (by kernel_rfl) rfl ?_
         refine WA.no 37 rfl rfl (by kernel_rfl) rfl ?_
         refine WA.no 38 rfl rfl (by kernel_rfl) rfl ?_
         refine WA.no 39 rfl rfl (by kernel_rfl) rfl ?_
         refine WA.no 40 rfl rfl (by kernel_rfl) rfl ?_
         refine WA.no 41 rfl rfl (by kernel_rfl) rfl ?_
         refine WA.no 42 rfl rfl (by kernel_rfl) rfl ?_
         refine WA.takeP 43 rfl (RDP.of fun _ => RD.pickT rfl rfl) rfl (by kernel_rfl) rfl ?_
         refine WA.takeP 44 rfl (RDP.of fun _ => RD.move rfl) rfl (by kernel_rfl) rfl ?_
         refine WA.no 45 rfl rfl (by kernel_rfl) rfl ?_
         refine WA.no 46 rfl rfl (by kernel_rfl) rfl ?_
         refine WA.no 47 rfl rfl (by kernel_rfl) rfl ?_
         refine WA.no 48 rfl rfl (by kernel_rfl) rfl ?_
         refine WA.no 49 rfl rfl (by kernel_rfl) rfl ?_
         refine WA.takeP 50 rfl (RDP.of fun _ => RD.pickT rfl rfl) rfl (by kernel_rfl) rfl ?_
         refine WA.done (by kernel_rfl) ?_
         refine JE.seqN ?_
         refine J.condT rfl ?_
         refine J.seq ?_
         refine J.reg ?_
         refine WL.rd (RD.assign rfl) rfl rfl ?_
         refine WL.nil ?_
         refine JE.seqN ?_
         refine J.ret ?_
         refine JE.ret rfl (.tmp rfl .nil) (fun w hS => ?_)
         first | exact CS.fin hS rfl | (exfalso; omega) | exact CS.fin hS (by simp_all)
        ·
         refine WA.take 26 rfl (RD.loadA rfl rfl) rfl (by kernel_rfl) rfl ?_
         refine WA.takeP 27 rfl (RDP.of fun _ => RD.move rfl) rfl (by kernel_rfl) rfl ?_
         refine WA.take 29 rfl (RD.loadA rfl rfl) rfl (by kernel_rfl) rfl ?_
         refine WA.takeP 30 rfl (RDP.of fun _ => RD.move rfl) rfl (by kernel_rfl) rfl ?_
         refine WA.one (i := 28) (by kernel_rfl) ?_
         refine WAi.efS rfl (EF.callS (.cons rfl (.cons rfl .nil)) (fun w hS => iDegreeOf_c _ _ _ _ _ (by exact RdI.rd hS))) rfl rfl (fun _ => by repeat (first | exact subM_refl _ | refine subM_app _ ?_ | refine subM_con _ ?_)) ?_
         rintro ⟨⟩ -
         refine WA.one (i := 31) (by kernel_rfl) ?_
         refine WAi.efS rfl (EF.callS (.cons rfl (.cons rfl .nil)) (fun w hS => sDegreeOf_c _ _ _ _ _ (by exact RdI.rd hS))) rfl rfl (fun _ => by repeat (first | exact subM_refl _ | refine subM_app _ ?_ | refine subM_con _ ?_)) ?_
         rintro ⟨⟩ -
         refine WA.takeP 32 rfl (RDP.of fun _ => RD.neq rfl rfl) rfl (by kernel_rfl) rfl ?_
         refine WA.takeP 33 rfl (RDP.of fun _ => RD.pickF rfl rfl) rfl (by kernel_rfl) rfl ?_
         refine WA.takeP 34 rfl (RDP.of fun _ => RD.move rfl) rfl (by kernel_rfl) rfl ?_
         refine WA.caseP 219 rfl (fun hg219 => ?_) (fun hg219 => ?_)
         ·
          refine WA.no 35 rfl rfl (by kernel_rfl) rfl ?_
          refine WA.no 36 rfl rfl (by kernel_rfl) rfl ?_
          refine WA.no 37 rfl rfl (by kernel_rfl) rfl ?_
          refine WA.no 38 rfl rfl (by kernel_rfl) rfl ?_
          refine WA.no 39 rfl rfl (by kernel_rfl) rfl ?_
          refine WA.no 40 rfl rfl (by kernel_rfl) rfl ?_
          refine WA.no 41 rfl rfl (by kernel_rfl) rfl ?_
          refine WA.no 42 rfl rfl (by kernel_rfl) rfl ?_
          refine WA.takeP 43 rfl (RDP.of fun _ => RD.pickT rfl rfl) rfl (by kernel_rfl) rfl ?_
          refine WA.takeP 44 rfl (RDP.of fun _ => RD.move rfl) rfl (by kernel_rfl) rfl ?_
          refine WA.no 45 rfl rfl (by kernel_rfl) rfl ?_
          refine WA.no 46 rfl rfl (by kernel_rfl) rfl ?_
          refine WA.no 47 rfl rfl (by kernel_rfl) rfl ?_
          refine WA.no 48 rfl rfl (by kernel_rfl) rfl ?_
          refine WA.no 49 rfl rfl (by kernel_rfl) rfl ?_
          refine WA.takeP 50 rfl (RDP.of fun _ => RD.pickT rfl rfl) rfl (by kernel_rfl) rfl ?_
          refine WA.done (by kernel_rfl) ?_
          refine JE.seqN ?_
          refine J.condT rfl ?_
          refine J.seq ?_
          refine J.reg ?_
          refine WL.rd (RD.assign rfl) rfl rfl ?_
          refine WL.nil ?_
          refine JE.seqN ?_
          refine J.ret ?_
          refine JE.ret rfl (.tmp rfl .nil) (fun w hS => ?_)
          first | exact CS.fin hS rfl | (exfalso; omega) | exact CS.fin hS (by simp_all [mkRes])
         ·
          refine WA.take 35 rfl (RD.loadA rfl rfl) rfl (by kernel_rfl) rfl ?_
          refine WA.takeP 36 rfl (RDP.of fun _ => RD.move rfl) rfl (by kernel_rfl) rfl ?_
          refine WA.take 38 rfl (RD.loadA rfl rfl) rfl (by kernel_rfl) rfl ?_
          refine WA.takeP 39 rfl (RDP.of fun _ => RD.move rfl) rfl (by kernel_rfl) rfl ?_
          refine WA.one (i := 37) (by kernel_rfl) ?_
          refine WAi.efS rfl (EF.callN (.cons rfl (.cons rfl .nil)) (fun w hS => iOnlyBars_c _ _ _ _ _ _ (by exact RdI.rd hS) (by exact RdI.rd hS) (by omega))) rfl rfl (fun _ => by repeat (first | exact subM_refl _ | refine subM_app _ ?_ | refine subM_con _ ?_)) ?_
          rintro v222 -
          refine WA.one (i := 40) (by kernel_rfl) ?_
          refine WAi.efS rfl (EF.callN (.cons rfl (.cons rfl .nil)) (fun w hS => sOnlyBars_c _ _ _ _ _ _ (by exact RdI.rd hS) (by exact RdI.rd hS) (by omega))) rfl rfl (fun _ => by repeat (first | exact subM_refl _ | refine subM_app _ ?_ | refine subM_con _ ?_)) ?_
          rintro v225 -
          refine WA.one (i := 41) (by kernel_rfl) ?_
          refine WAi.efS rfl (EF.callS (.cons rfl (.cons rfl .nil)) (fun w hS => sEqualGraphs_c _ _ _ _ _ _ _ (by exact RdI.rd hS) (by exact RdI.rd hS))) rfl rfl (fun _ => by repeat (first | exact subM_refl _ | refine subM_app _ ?_ | refine subM_con _ ?_)) ?_
          rintro ⟨⟩ -
          refine WA.takeP 42 rfl (RDP.of fun _ => RD.notP rfl) rfl (by kernel_rfl) rfl ?_
          refine WA.takeP 43 rfl (RDP.of fun _ => RD.pickF rfl rfl) rfl (by kernel_rfl) rfl ?_
          refine WA.takeP 44 rfl (RDP.of fun _ => RD.move rfl) rfl (by kernel_rfl) rfl ?_
          refine WA.caseP 229 rfl (fun hg229 => ?_) (fun hg229 => ?_)
          ·
           refine WA.no 45 rfl rfl (by kernel_rfl) rfl ?_
           refine WA.no 46 rfl rfl (by kernel_rfl) rfl ?_
           refine WA.no 47 rfl rfl (by kernel_rfl) rfl ?_
           refine WA.no 48 rfl rfl (by kernel_rfl) rfl ?_
           refine WA.no 49 rfl rfl (by kernel_rfl) rfl ?_
           refine WA.takeP 50 rfl (RDP.of fun _ => RD.pickT rfl rfl) rfl (by kernel_rfl) rfl ?_
           refine WA.done (by kernel_rfl) ?_
           refine JE.seqN ?_
           refine J.condT rfl ?_
           refine J.seq ?_
           refine J.reg ?_
           refine WL.rd (RD.assign rfl) rfl rfl ?_
           refine WL.nil ?_
           refine JE.seqN ?_
           refine J.ret ?_
           refine JE.ret rfl (.tmp rfl .nil) (fun w hS => ?_)
           first | exact CS.fin hS rfl | (exfalso; omega) | exact CS.fin hS (by simp_all)
          ·
           refine WA.take 45 rfl (RD.loadA rfl rfl) rfl (by kernel_rfl) rfl ?_
           refine WA.take 47 rfl (RD.loadA rfl rfl) rfl (by kernel_rfl) rfl ?_
           refine WA.one (i := 46) (by kernel_rfl) ?_
           refine WAi.efS rfl (EF.callS (.cons rfl .nil) (fun w hS => iIsConnected_c _ _ _ _ (by exact RdI.rd hS))) rfl rfl (fun _ => by repeat (first | exact subM_refl _ | refine subM_app _ ?_ | refine subM_con _ ?_)) ?_
           rintro ⟨⟩ -
           refine WA.one (i := 48) (by kernel_rfl) ?_
           refine WAi.efS rfl (EF.callS (.cons rfl .nil) (fun w hS => sIsConnected_c _ _ _ _ (by exact RdI.rd hS))) rfl rfl (fun _ => by repeat (first | exact subM_refl _ | refine subM_app _ ?_ | refine subM_con _ ?_)) ?_
           rintro ⟨⟩ -
           refine WA.takeP 49 rfl (RDP.of fun _ => RD.neqB rfl rfl) rfl (by kernel_rfl) rfl ?_
           refine WA.takeP 50 rfl (RDP.of fun _ => RD.pickF rfl rfl) rfl (by kernel_rfl) rfl ?_
           refine WA.done (by kernel_rfl) ?_
           refine JE.seqN ?_
           refine J.cond rfl (fun hc235 => ?_) (fun hc235 => ?_)
           ·
            refine J.seq ?_
            refine J.reg ?_
            refine WL.rd (RD.assign rfl) rfl rfl ?_
            refine WL.nil ?_
            refine JE.seqN ?_
            refine J.ret ?_
            refine JE.ret rfl (.tmp rfl .nil) (fun w hS => ?_)
            first | exact CS.fin hS rfl | (exfalso; omega) | exact CS.fin hS (by simp_all)
           ·
            refine J.skip ?_
            refine JE.cutN ⟨?_, rfl, rfl⟩ ?_ ?_
            · trivial
            · exact (Sub.consE rfl (by first | rfl | (congr 1; omega) | (simp; done)) (Sub.consE rfl (by first | rfl | (congr 1; omega) | (simp; done)) (Sub.consE rfl (by first | rfl | (congr 1; omega) | (simp; done)) (Sub.consE rfl (by first | rfl | (congr 1; omega) | (simp; done)) (Sub.consE rfl (by first | rfl | (congr 1; omega) | (simp; done)) (Sub.consE rfl (by first | rfl | (congr 1; omega) | (simp; done)) (Sub.consE rfl (by first | rfl | (congr 1; omega) | (simp; done)) (Sub.consE rfl (by first | rfl | (congr 1; omega) | (simp; done)) (Sub.consE rfl (by first | rfl | (congr 1; omega) | (simp; done)) .nil)))))))))
            · exact (SubM.cells rfl (by first | rfl | (simp; done)) (SubM.cells rfl (by first | rfl | (simp; done)) (SubM.row rfl rfl (by first | rfl | (simp [iv, bv, yv, tv, sv]; done)) (SubM.row rfl rfl (by first | rfl | (simp [iv, bv, yv, tv, sv]; done)) (SubM.cells rfl (by first | rfl | (simp; done)) (SubM.row rfl rfl (by first | rfl | (simp [iv, bv, yv, tv, sv]; done)) (SubM.cells rfl (by first | rfl | (simp; done)) (SubM.row rfl rfl (by first | rfl | (simp [iv, bv, yv, tv, sv]; done)) (SubM.cells rfl (by first | rfl | (simp; done)) (SubM.row rfl rfl (by first | rfl | (simp [iv, bv, yv, tv, sv]; done)) (SubM.ro rfl (by first | rfl | (simp [iv, bv, yv, tv, sv]; done)) .nil)))))))))))
     ·
      rintro _ _ ⟨-, rfl, rfl⟩
      refine J.seq ?_
      have hps := pg_some x41.1 x41.2.1
      refine J.anyAll [] ?_
      refine WA.takeP 0 rfl (RDP.of fun _ => RD.move rfl) rfl (by kernel_rfl) rfl ?_
      refine WA.take 1 rfl (RD.loadA rfl rfl) rfl (by kernel_rfl) rfl ?_
      refine WA.one (i := 2) (by kernel_rfl) ?_
      refine WAi.efS rfl (EF.callS (.cons rfl .nil) (fun w hS => sFormatGraph_c _ _ _ _ (by exact RdI.rd hS))) rfl rfl (fun _ => by repeat (first | exact subM_refl _ | refine subM_app _ ?_ | refine subM_con _ ?_)) ?_
      rintro ⟨⟩ -
      refine WA.takeP 3 rfl (RDP.of fun _ => RD.eqlS rfl rfl) rfl (by kernel_rfl) rfl ?_
      refine WA.takeP 4 rfl (RDP.of fun _ => RD.move rfl) rfl (by kernel_rfl) rfl ?_
      refine WA.caseP 240 rfl (fun hg240 => ?_) (fun hg240 => ?_)
      ·
       refine WA.takeP 5 rfl (RDP.of fun _ => RD.move rfl) rfl (by kernel_rfl) rfl ?_
       refine WA.take 6 rfl (RD.loadA rfl rfl) rfl (by kernel_rfl) rfl ?_
       refine WA.one (i := 7) (by kernel_rfl) ?_
       refine WAi.efS rfl (EF.callS (.cons rfl .nil) (fun w hS => sIsGraph_c _ _ _ _ (by exact RdI.rd hS))) rfl rfl (fun _ => by repeat (first | exact subM_refl _ | refine subM_app _ ?_ | refine subM_con _ ?_)) ?_
       rintro ⟨⟩ -
       refine WA.takeP 8 rfl (RDP.of fun _ => RD.eqlB rfl rfl) rfl (by kernel_rfl) rfl ?_
       refine WA.takeP 9 rfl (RDP.of fun _ => RD.pickT rfl rfl) rfl (by kernel_rfl) rfl ?_
       refine WA.takeP 10 rfl (RDP.of fun _ => RD.move rfl) rfl (by kernel_rfl) rfl ?_
       refine WA.case 246 rfl (fun hg246 => ?_) (fun hg246 => ?_)
       ·
        refine WA.takeP 11 rfl (RDP.of fun _ => RD.move rfl) rfl (by kernel_rfl) rfl ?_
        refine WA.takeP 12 rfl (RDP.of fun _ => RD.not rfl) rfl (by kernel_rfl) rfl ?_
        refine WA.takeP 13 rfl (RDP.of fun _ => RD.move rfl) rfl (by kernel_rfl) rfl ?_
        refine WA.case 249 rfl (fun hg249 => ?_) (fun hg249 => ?_)
        ·
         refine WA.no 14 rfl rfl (by kernel_rfl) rfl ?_
         refine WA.no 15 rfl rfl (by kernel_rfl) rfl ?_
         refine WA.no 16 rfl rfl (by kernel_rfl) rfl ?_
         refine WA.takeP 17 rfl (RDP.of fun _ => RD.pickT rfl rfl) rfl (by kernel_rfl) rfl ?_
         refine WA.takeP 18 rfl (RDP.of fun _ => RD.pickT rfl rfl) rfl (by kernel_rfl) rfl ?_
         refine WA.takeP 19 rfl (RDP.of fun _ => RD.move rfl) rfl (by kernel_rfl) rfl ?_
         refine WA.takeP 20 rfl (RDP.of fun _ => RD.move rfl) rfl (by kernel_rfl) rfl ?_
         refine WA.takeP 21 rfl (RDP.of fun _ => RD.move rfl) rfl (by kernel_rfl) rfl ?_
         refine WA.takeP 22 rfl (RDP.of fun _ => RD.eqlB rfl rfl) rfl (by kernel_rfl) rfl ?_
         refine WA.takeP 23 rfl (RDP.of fun _ => RD.pickT rfl rfl) rfl (by kernel_rfl) rfl ?_
         refine WA.takeP 24 rfl (RDP.of fun _ => RD.move rfl) rfl (by kernel_rfl) rfl ?_
         refine WA.case 260 rfl (fun hg260 => ?_) (fun hg260 => ?_)
         ·
          refine WA.take 25 rfl (RD.loadA rfl rfl) rfl (by kernel_rfl) rfl ?_
          refine WA.take 26 rfl (RD.loadA rfl rfl) rfl (by kernel_rfl) rfl ?_
          refine WA.take 28 rfl (RD.loadA rfl rfl) rfl (by kernel_rfl) rfl ?_
          refine WA.take 29 rfl (RD.loadA rfl rfl) rfl (by kernel_rfl) rfl ?_
          refine WA.one (i := 27) (by kernel_rfl) ?_
          refine WAi.efS rfl (EF.callS (.cons rfl (.cons rfl .nil)) (fun w hS => iEqualGraphs_c _ _ _ _ _ _ _ (by exact RdI.rd hS) (by exact RdI.rd hS))) rfl rfl (fun _ => by repeat (first | exact subM_refl _ | refine subM_app _ ?_ | refine subM_con _ ?_)) ?_
          rintro ⟨⟩ -
          refine WA.one (i := 30) (by kernel_rfl) ?_
          refine WAi.efS rfl (EF.callS (.cons rfl (.cons rfl .nil)) (fun w hS => sEqualGraphs_c _ _ _ _ _ _ _ (by exact RdI.rd hS) (by exact RdI.rd hS))) rfl rfl (fun _ => by repeat (first | exact subM_refl _ | refine subM_app _ ?_ | refine subM_con _ ?_)) ?_
          rintro ⟨⟩ -
          refine WA.takeP 31 rfl (RDP.of fun _ => RD.eqlB rfl rfl) rfl (by kernel_rfl) rfl ?_
          refine WA.takeP 32 rfl (RDP.of fun _ => RD.pickT rfl rfl) rfl (by kernel_rfl) rfl ?_
          refine WA.takeP 33 rfl (RDP.of fun _ => RD.move rfl) rfl (by kernel_rfl) rfl ?_
          refine WA.case 269 rfl (fun hg269 => ?_) (fun hg269 => ?_)
          ·
           refine WA.take 34 rfl (RD.loadA rfl rfl) rfl (by kernel_rfl) rfl ?_
           refine WA.take 36 rfl (RD.loadA rfl rfl) rfl (by kernel_rfl) rfl ?_
           refine WA.one (i := 35) (by kernel_rfl) ?_
           refine WAi.efS rfl (EF.callS (.cons rfl .nil) (fun w hS => iIsGraph_c _ _ _ _ (by exact RdI.rd hS))) rfl rfl (fun _ => by repeat (first | exact subM_refl _ | refine subM_app _ ?_ | refine subM_con _ ?_)) ?_
           rintro ⟨⟩ -
           refine WA.one (i := 37) (by kernel_rfl) ?_
           refine WAi.efS rfl (EF.callS (.cons rfl .nil) (fun w hS => sIsGraph_c _ _ _ _ (by exact RdI.rd hS))) rfl rfl (fun _ => by repeat (first | exact subM_refl _ | refine subM_app _ ?_ | refine subM_con _ ?_)) ?_
           rintro ⟨⟩ -
           refine WA.takeP 38 rfl (RDP.of fun _ => RD.eqlB rfl rfl) rfl (by kernel_rfl) rfl ?_
           refine WA.takeP 39 rfl (RDP.of fun _ => RD.pickT rfl rfl) rfl (by kernel_rfl) rfl ?_
           refine WA.takeP 40 rfl (RDP.of fun _ => RD.assign rfl) rfl (by kernel_rfl) rfl ?_
           refine WA.done (by kernel_rfl) ?_
           refine JE.seqN ?_
           refine J.ret ?_
           refine JE.ret rfl (.tmp rfl .nil) (fun w hS => ?_)
           first | exact CS.fin hS rfl | (exfalso; omega) | exact CS.fin hS (by simp_all [mkRes])
          ·
           refine WA.no 34 rfl rfl (by kernel_rfl) rfl ?_
           refine WA.no 35 rfl rfl (by kernel_rfl) rfl ?_
           refine WA.no 36 rfl rfl (by kernel_rfl) rfl ?_
           refine WA.no 37 rfl rfl (by kernel_rfl) rfl ?_
           refine WA.no 38 rfl rfl (by kernel_rfl) rfl ?_
           refine WA.takeP 39 rfl (RDP.of fun _ => RD.pickF rfl rfl) rfl (by kernel_rfl) rfl ?_
           refine WA.takeP 40 rfl (RDP.of fun _ => RD.assign rfl) rfl (by kernel_rfl) rfl ?_
           refine WA.done (by kernel_rfl) ?_
           refine JE.seqN ?_
           refine J.ret ?_
           refine JE.ret rfl (.tmp rfl .nil) (fun w hS => ?_)
           first | exact CS.fin hS rfl | (exfalso; omega) | exact CS.fin hS (by simp_all)
         ·
          refine WA.no 25 rfl rfl (by kernel_rfl) rfl ?_
          refine WA.no 26 rfl rfl (by kernel_rfl) rfl ?_
          refine WA.no 27 rfl rfl (by kernel_rfl) rfl ?_
          refine WA.no 28 rfl rfl (by kernel_rfl) rfl ?_
          refine WA.no 29 rfl rfl (by kernel_rfl) rfl ?_
          refine WA.no 30 rfl rfl (by kernel_rfl) rfl ?_
          refine WA.no 31 rfl rfl (by kernel_rfl) rfl ?_
          refine WA.takeP 32 rfl (RDP.of fun _ => RD.pickF rfl rfl) rfl (by kernel_rfl) rfl ?_
          refine WA.takeP 33 rfl (RDP.of fun _ => RD.move rfl) rfl (by kernel_rfl) rfl ?_
          refine WA.no 34 rfl rfl (by kernel_rfl) rfl ?_
          refine WA.no 35 rfl rfl (by kernel_rfl) rfl ?_
          refine WA.no 36 rfl rfl (by kernel_rfl) rfl ?_
          refine WA.no 37 rfl rfl (by kernel_rfl) rfl ?_
          refine WA.no 38 rfl rfl (by kernel_rfl) rfl ?_
          refine WA.takeP 39 rfl (RDP.of fun _ => RD.pickF rfl rfl) rfl (by kernel_rfl) rfl ?_
          refine WA.takeP 40 rfl (RDP.of fun _ => RD.assign rfl) rfl (by kernel_rfl) rfl ?_
          refine WA.done (by kernel_rfl) ?_
          refine JE.seqN ?_
          refine J.ret ?_
          refine JE.ret rfl (.tmp rfl .nil) (fun w hS => ?_)
          first | exact CS.fin hS rfl | (exfalso; omega) | exact CS.fin hS (by simp_all)
        ·
         obtain ⟨hp1, hp2⟩ := pg_back (n := x41.1) (xs := x41.2.1) (by simpa using hg249)
         refine WA.take 14 rfl (RD.loadA rfl rfl) rfl (by kernel_rfl) rfl ?_
         refine WA.take 15 rfl (RD.loadA rfl rfl) rfl (by kernel_rfl) rfl ?_
         refine WA.one (i := 16) (by kernel_rfl) ?_
         refine WAi.efS rfl (EF.callS (.cons rfl (.cons rfl .nil)) (fun w hS => sEqualGraphs_c _ _ _ _ _ _ _ (by exact RdI.rd hS) (by exact RdI.rd hS))) rfl rfl (fun _ => by repeat (first | exact subM_refl _ | refine subM_app _ ?_ | refine subM_con _ ?_)) ?_
         rintro ⟨⟩ -
         refine WA.takeP 17 rfl (RDP.of fun _ => RD.pickF rfl rfl) rfl (by kernel_rfl) rfl ?_
         refine WA.takeP 18 rfl (RDP.of fun _ => RD.pickT rfl rfl) rfl (by kernel_rfl) rfl ?_
         refine WA.takeP 19 rfl (RDP.of fun _ => RD.move rfl) rfl (by kernel_rfl) rfl ?_
         refine WA.caseP 255 rfl (fun hg255 => ?_) (fun hg255 => ?_)
         ·
          refine WA.takeP 20 rfl (RDP.of fun _ => RD.move rfl) rfl (by kernel_rfl) rfl ?_
          refine WA.takeP 21 rfl (RDP.of fun _ => RD.move rfl) rfl (by kernel_rfl) rfl ?_
          refine WA.takeP 22 rfl (RDP.of fun _ => RD.eqlB rfl rfl) rfl (by kernel_rfl) rfl ?_
          refine WA.takeP 23 rfl (RDP.of fun _ => RD.pickT rfl rfl) rfl (by kernel_rfl) rfl ?_
          refine WA.takeP 24 rfl (RDP.of fun _ => RD.move rfl) rfl (by kernel_rfl) rfl ?_
          refine WA.case 260 rfl (fun hg260 => ?_) (fun hg260 => ?_)
          ·
           refine WA.take 25 rfl (RD.loadA rfl rfl) rfl (by kernel_rfl) rfl ?_
           refine WA.take 26 rfl (RD.loadA rfl rfl) rfl (by kernel_rfl) rfl ?_
           refine WA.take 28 rfl (RD.loadA rfl rfl) rfl (by kernel_rfl) rfl ?_
           refine WA.take 29 rfl (RD.loadA rfl rfl) rfl (by kernel_rfl) rfl ?_
           refine WA.one (i := 27) (by kernel_rfl) ?_
           refine WAi.efS rfl (EF.callS (.cons rfl (.cons rfl .nil)) (fun w hS => iEqualGraphs_c _ _ _ _ _ _ _ (by exact RdI.rd hS) (by exact RdI.rd hS))) rfl rfl (fun _ => by repeat (first | exact subM_refl _ | refine subM_app _ ?_ | refine subM_con _ ?_)) ?_
           rintro ⟨⟩ -
           refine WA.one (i := 30) (by kernel_rfl) ?_
           refine WAi.efS rfl (EF.callS (.cons rfl (.cons rfl .nil)) (fun w hS => sEqualGraphs_c _ _ _ _ _ _ _ (by exact RdI.rd hS) (by exact RdI.rd hS))) rfl rfl (fun _ => by repeat (first | exact subM_refl _ | refine subM_app _ ?_ | refine subM_con _ ?_)) ?_
           rintro ⟨⟩ -
           refine WA.takeP 31 rfl (RDP.of fun _ => RD.eqlB rfl rfl) rfl (by kernel_rfl) rfl ?_
           refine WA.takeP 32 rfl (RDP.of fun _ => RD.pickT rfl rfl) rfl (by kernel_rfl) rfl ?_
           refine WA.takeP 33 rfl (RDP.of fun _ => RD.move rfl) rfl (by kernel_rfl) rfl ?_
           refine WA.case 269 rfl (fun hg269 => ?_) (fun hg269 => ?_)
           ·
            refine WA.take 34 rfl (RD.loadA rfl rfl) rfl (by kernel_rfl) rfl ?_
            refine WA.take 36 rfl (RD.loadA rfl rfl) rfl (by kernel_rfl) rfl ?_
            refine WA.one (i := 35) (by kernel_rfl) ?_
            refine WAi.efS rfl (EF.callS (.cons rfl .nil) (fun w hS => iIsGraph_c _ _ _ _ (by exact RdI.rd hS))) rfl rfl (fun _ => by repeat (first | exact subM_refl _ | refine subM_app _ ?_ | refine subM_con _ ?_)) ?_
            rintro ⟨⟩ -
            refine WA.one (i := 37) (by kernel_rfl) ?_
            refine WAi.efS rfl (EF.callS (.cons rfl .nil) (fun w hS => sIsGraph_c _ _ _ _ (by exact RdI.rd hS))) rfl rfl (fun _ => by repeat (first | exact subM_refl _ | refine subM_app _ ?_ | refine subM_con _ ?_)) ?_
            rintro ⟨⟩ -
            refine WA.takeP 38 rfl (RDP.of fun _ => RD.eqlB rfl rfl) rfl (by kernel_rfl) rfl ?_
            refine WA.takeP 39 rfl (RDP.of fun _ => RD.pickT rfl rfl) rfl (by kernel_rfl) rfl ?_
            refine WA.takeP 40 rfl (RDP.of fun _ => RD.assign rfl) rfl (by kernel_rfl) rfl ?_
            refine WA.done (by kernel_rfl) ?_
            refine JE.seqN ?_
            refine J.ret ?_
            refine JE.ret rfl (.tmp rfl .nil) (fun w hS => ?_)
            first | exact CS.fin hS rfl | (exfalso; omega) | exact CS.fin hS (by simp_all [mkRes])
           ·
            refine WA.no 34 rfl rfl (by kernel_rfl) rfl ?_
            refine WA.no 35 rfl rfl (by kernel_rfl) rfl ?_
            refine WA.no 36 rfl rfl (by kernel_rfl) rfl ?_
            refine WA.no 37 rfl rfl (by kernel_rfl) rfl ?_
            refine WA.no 38 rfl rfl (by kernel_rfl) rfl ?_
            refine WA.takeP 39 rfl (RDP.of fun _ => RD.pickF rfl rfl) rfl (by kernel_rfl) rfl ?_
            refine WA.takeP 40 rfl (RDP.of fun _ => RD.assign rfl) rfl (by kernel_rfl) rfl ?_
            refine WA.done (by kernel_rfl) ?_
            refine JE.seqN ?_
            refine J.ret ?_
            refine JE.ret rfl (.tmp rfl .nil) (fun w hS => ?_)
            first | exact CS.fin hS rfl | (exfalso; omega) | exact CS.fin hS (by simp_all)
          ·
           refine WA.no 25 rfl rfl (by kernel_rfl) rfl ?_
           refine WA.no 26 rfl rfl (by kernel_rfl) rfl ?_
           refine WA.no 27 rfl rfl (by kernel_rfl) rfl ?_
           refine WA.no 28 rfl rfl (by kernel_rfl) rfl ?_
           refine WA.no 29 rfl rfl (by kernel_rfl) rfl ?_
           refine WA.no 30 rfl rfl (by kernel_rfl) rfl ?_
           refine WA.no 31 rfl rfl (by kernel_rfl) rfl ?_
           refine WA.takeP 32 rfl (RDP.of fun _ => RD.pickF rfl rfl) rfl (by kernel_rfl) rfl ?_
           refine WA.takeP 33 rfl (RDP.of fun _ => RD.move rfl) rfl (by kernel_rfl) rfl ?_
           refine WA.no 34 rfl rfl (by kernel_rfl) rfl ?_
           refine WA.no 35 rfl rfl (by kernel_rfl) rfl ?_
           refine WA.no 36 rfl rfl (by kernel_rfl) rfl ?_
           refine WA.no 37 rfl rfl (by kernel_rfl) rfl ?_
           refine WA.no 38 rfl rfl (by kernel_rfl) rfl ?_
           refine WA.takeP 39 rfl (RDP.of fun _ => RD.pickF rfl rfl) rfl (by kernel_rfl) rfl ?_
           refine WA.takeP 40 rfl (RDP.of fun _ => RD.assign rfl) rfl (by kernel_rfl) rfl ?_
           refine WA.done (by kernel_rfl) ?_
           refine JE.seqN ?_
           refine J.ret ?_
           refine JE.ret rfl (.tmp rfl .nil) (fun w hS => ?_)
           first | exact CS.fin hS rfl | (exfalso; omega) | exact CS.fin hS (by simp_all)
         ·
          refine WA.no 20 rfl rfl (by kernel_rfl) rfl ?_
          refine WA.no 21 rfl rfl (by kernel_rfl) rfl ?_
          refine WA.no 22 rfl rfl (by kernel_rfl) rfl ?_
          refine WA.takeP 23 rfl (RDP.of fun _ => RD.pickF rfl rfl) rfl (by kernel_rfl) rfl ?_
          refine WA.takeP 24 rfl (RDP.of fun _ => RD.move rfl) rfl (by kernel_rfl) rfl ?_
          refine WA.no 25 rfl rfl (by kernel_rfl) rfl ?_
          refine WA.no 26 rfl rfl (by kernel_rfl) rfl ?_
          refine WA.no 27 rfl rfl (by kernel_rfl) rfl ?_
          refine WA.no 28 rfl rfl (by kernel_rfl) rfl ?_
          refine WA.no 29 rfl rfl (by kernel_rfl) rfl ?_
          refine WA.no 30 rfl rfl (by kernel_rfl) rfl ?_
          refine WA.no 31 rfl rfl (by kernel_rfl) rfl ?_
          refine WA.takeP 32 rfl (RDP.of fun _ => RD.pickF rfl rfl) rfl (by kernel_rfl) rfl ?_
          refine WA.takeP 33 rfl (RDP.of fun _ => RD.move rfl) rfl (by kernel_rfl) rfl ?_
          refine WA.no 34 rfl rfl (by kernel_rfl) rfl ?_
          refine WA.no 35 rfl rfl (by kernel_rfl) rfl ?_
          refine WA.no 36 rfl rfl (by kernel_rfl) rfl ?_
          refine WA.no 37 rfl rfl (by kernel_rfl) rfl ?_
          refine WA.no 38 rfl rfl (by kernel_rfl) rfl ?_
          refine WA.takeP 39 rfl (RDP.of fun _ => RD.pickF rfl rfl) rfl (by kernel_rfl) rfl ?_
          refine WA.takeP 40 rfl (RDP.of fun _ => RD.assign rfl) rfl (by kernel_rfl) rfl ?_
          refine WA.done (by kernel_rfl) ?_
          refine JE.seqN ?_
          refine J.ret ?_
          refine JE.ret rfl (.tmp rfl .nil) (fun w hS => ?_)
          first | exact CS.fin hS rfl | (exfalso; omega) | exact CS.fin hS (by simp_all)
       ·
        refine WA.no 11 rfl rfl (by kernel_rfl) rfl ?_
        refine WA.no 12 rfl rfl (by kernel_rfl) rfl ?_
        refine WA.no 13 rfl rfl (by kernel_rfl) rfl ?_
        refine WA.no 14 rfl rfl (by kernel_rfl) rfl ?_
        refine WA.no 15 rfl rfl (by kernel_rfl) rfl ?_
        refine WA.no 16 rfl rfl (by kernel_rfl) rfl ?_
        refine WA.no 17 rfl rfl (by kernel_rfl) rfl ?_
        refine WA.takeP 18 rfl (RDP.of fun _ => RD.pickF rfl rfl) rfl (by kernel_rfl) rfl ?_
        refine WA.takeP 19 rfl (RDP.of fun _ => RD.move rfl) rfl (by kernel_rfl) rfl ?_
        refine WA.no 20 rfl rfl (by kernel_rfl) rfl ?_
        refine WA.no 21 rfl rfl (by kernel_rfl) rfl ?_
        refine WA.no 22 rfl rfl (by kernel_rfl) rfl ?_
        refine WA.takeP 23 rfl (RDP.of fun _ => RD.pickF rfl rfl) rfl (by kernel_rfl) rfl ?_
        refine WA.takeP 24 rfl (RDP.of fun _ => RD.move rfl) rfl (by kernel_rfl) rfl ?_
        refine WA.no 25 rfl rfl (by kernel_rfl) rfl ?_
        refine WA.no 26 rfl rfl (by kernel_rfl) rfl ?_
        refine WA.no 27 rfl rfl (by kernel_rfl) rfl ?_
        refine WA.no 28 rfl rfl (by kernel_rfl) rfl ?_
        refine WA.no 29 rfl rfl (by kernel_rfl) rfl ?_
        refine WA.no 30 rfl rfl (by kernel_rfl) rfl ?_
        refine WA.no 31 rfl rfl (by kernel_rfl) rfl ?_
        refine WA.takeP 32 rfl (RDP.of fun _ => RD.pickF rfl rfl) rfl (by kernel_rfl) rfl ?_
        refine WA.takeP 33 rfl (RDP.of fun _ => RD.move rfl) rfl (by kernel_rfl) rfl ?_
        refine WA.no 34 rfl rfl (by kernel_rfl) rfl ?_
        refine WA.no 35 rfl rfl (by kernel_rfl) rfl ?_
        refine WA.no 36 rfl rfl (by kernel_rfl) rfl ?_
        refine WA.no 37 rfl rfl (by kernel_rfl) rfl ?_
        refine WA.no 38 rfl rfl (by kernel_rfl) rfl ?_
        refine WA.takeP 39 rfl (RDP.of fun _ => RD.pickF rfl rfl) rfl (by kernel_rfl) rfl ?_
        refine WA.takeP 40 rfl (RDP.of fun _ => RD.assign rfl) rfl (by kernel_rfl) rfl ?_
        refine WA.done (by kernel_rfl) ?_
        refine JE.seqN ?_
        refine J.ret ?_
        refine JE.ret rfl (.tmp rfl .nil) (fun w hS => ?_)
        first | exact CS.fin hS rfl | (exfalso; omega) | exact CS.fin hS (by simp_all)
      ·
       refine WA.no 5 rfl rfl (by kernel_rfl) rfl ?_
       refine WA.no 6 rfl rfl (by kernel_rfl) rfl ?_
       refine WA.no 7 rfl rfl (by kernel_rfl) rfl ?_
       refine WA.no 8 rfl rfl (by kernel_rfl) rfl ?_
       refine WA.takeP 9 rfl (RDP.of fun _ => RD.pickF rfl rfl) rfl (by kernel_rfl) rfl ?_
       refine WA.takeP 10 rfl (RDP.of fun _ => RD.move rfl) rfl (by kernel_rfl) rfl ?_
       refine WA.no 11 rfl rfl (by kernel_rfl) rfl ?_
       refine WA.no 12 rfl rfl (by kernel_rfl) rfl ?_
       refine WA.no 13 rfl rfl (by kernel_rfl) rfl ?_
       refine WA.no 14 rfl rfl (by kernel_rfl) rfl ?_
       refine WA.no 15 rfl rfl (by kernel_rfl) rfl ?_
       refine WA.no 16 rfl rfl (by kernel_rfl) rfl ?_
       refine WA.no 17 rfl rfl (by kernel_rfl) rfl ?_
       refine WA.takeP 18 rfl (RDP.of fun _ => RD.pickF rfl rfl) rfl (by kernel_rfl) rfl ?_
       refine WA.takeP 19 rfl (RDP.of fun _ => RD.move rfl) rfl (by kernel_rfl) rfl ?_
       refine WA.no 20 rfl rfl (by kernel_rfl) rfl ?_
       refine WA.no 21 rfl rfl (by kernel_rfl) rfl ?_
       refine WA.no 22 rfl rfl (by kernel_rfl) rfl ?_
       refine WA.takeP 23 rfl (RDP.of fun _ => RD.pickF rfl rfl) rfl (by kernel_rfl) rfl ?_
       refine WA.takeP 24 rfl (RDP.of fun _ => RD.move rfl) rfl (by kernel_rfl) rfl ?_
       refine WA.no 25 rfl rfl (by kernel_rfl) rfl ?_
       refine WA.no 26 rfl rfl (by kernel_rfl) rfl ?_
       refine WA.no 27 rfl rfl (by kernel_rfl) rfl ?_
       refine WA.no 28 rfl rfl (by kernel_rfl) rfl ?_
       refine WA.no 29 rfl rfl (by kernel_rfl) rfl ?_
       refine WA.no 30 rfl rfl (by kernel_rfl) rfl ?_
       refine WA.no 31 rfl rfl (by kernel_rfl) rfl ?_
       refine WA.takeP 32 rfl (RDP.of fun _ => RD.pickF rfl rfl) rfl (by kernel_rfl) rfl ?_
       refine WA.takeP 33 rfl (RDP.of fun _ => RD.move rfl) rfl (by kernel_rfl) rfl ?_
       refine WA.no 34 rfl rfl (by kernel_rfl) rfl ?_
       refine WA.no 35 rfl rfl (by kernel_rfl) rfl ?_
       refine WA.no 36 rfl rfl (by kernel_rfl) rfl ?_
       refine WA.no 37 rfl rfl (by kernel_rfl) rfl ?_
       refine WA.no 38 rfl rfl (by kernel_rfl) rfl ?_
       refine WA.takeP 39 rfl (RDP.of fun _ => RD.pickF rfl rfl) rfl (by kernel_rfl) rfl ?_
       refine WA.takeP 40 rfl (RDP.of fun _ => RD.assign rfl) rfl (by kernel_rfl) rfl ?_
       refine WA.done (by kernel_rfl) ?_
       refine JE.seqN ?_
       refine J.ret ?_
       refine JE.ret rfl (.tmp rfl .nil) (fun w hS => ?_)
       first | exact CS.fin hS rfl | (exfalso; omega) | exact CS.fin hS (by simp_all)

end Go.Proofs.Ytlcijjkbgcllfaa
