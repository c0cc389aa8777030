/- Contracts of functions of the program, each walked once; written by a program of our own. -/
import Derived.Test.YtpojkjabngkfgaaDgP
import Derived.Test.YtpojkjabngkfgaaSo
namespace Go.Proofs.Ytpojkjabngkfgaa
open Go Go.RowKit
set_option maxRecDepth 4000

theorem subM_app (ns : List En) {a m : List En} (h : SubM a m) : SubM a (ns ++ m) := by
  induction h with
  | nil => exact .nil
  | cons h _ ih => exact .cons ((h.append_left ns).trans List.perm_middle) ih
theorem subM_refl : ∀ m : List En, SubM m m
  | [] => .nil
  | _ :: m => .cons (List.Perm.refl _) (subM_refl m)
theorem subM_con (x : En) {a m : List En} (h : SubM a m) : SubM a (x :: m) := subM_app [x] h
set_option maxHeartbeats 8000000
theorem law_c (vb : Value) (xb : List UInt8) (w : World) (hr : Rd w vb 1 (xb.map yv)) :
    CS Try.prog 3 [vb] w (.bool true) := by
 refine calls_of_J (mu := (fun _ => False)) (m := [.ro vb 1 (xb.map yv)]) (e := [(0, vb)]) Try.func3 rfl rfl (.cons rfl .nil) (((St.init _ _).ro0 hr (by decide))) ?_
 refine J.seq ?_
 refine J.reg ?_
 refine WL.rd (RD.assign rfl) rfl rfl ?_
 refine WL.nil ?_
 refine JE.seqN ?_
 refine J.seq ?_
 refine J.seq ?_
 refine J.reg ?_
 refine WL.rd (RD.move rfl) rfl rfl ?_
 refine WL.efS (EF.callS (.cons rfl .nil) (fun w hS => big_c vb xb _ (by exact RdI.rd hS))) rfl rfl ?_
 rintro ⟨⟩ -
 refine WL.nil ?_
 refine JE.seqN ?_
 refine J.condP rfl (fun hc41 => ?_) (fun hc41 => ?_)
 ·
  refine J.seq ?_
  refine J.reg ?_
  refine WL.rd (RD.assign rfl) rfl rfl ?_
  refine WL.nil ?_
  refine JE.seqN ?_
  refine J.ret ?_
  refine JE.ret rfl (.tmp rfl .nil) (fun w hS => ?_)
  first | exact CS.fin hS rfl | (exfalso; omega) | exact CS.fin hS (by simp_all [mkRes])
 ·
  have hlb : xb.length ≤ 1048576 := by omega
  refine J.skip ?_
  refine JE.seqN ?_
  refine J.seq ?_
  refine J.reg ?_
  refine WL.rd (RD.move rfl) rfl rfl ?_
  refine WL.efS (EF.callN (.cons rfl .nil) (fun w hS => DrawRunPebbles_c vb xb _ (by exact RdI.rd hS) (by omega))) rfl rfl ?_
  rintro x44 hx44
  have hk44 : (-9223372036854775808 ≤ x44.2.2.2.1 ∧ x44.2.2.2.1 ≤ 9223372036854775807) := by omega
  have hl44 : (-9223372036854775808 ≤ x44.2.2.2.2 ∧ x44.2.2.2.2 ≤ 9223372036854775807) := by omega
  have hrl := runP_len x44.1 x44.2.2.2.1 x44.2.2.2.2 x44.2.1
  have hpx := pickIx_le (rejF x44.1 x44.2.2.2.1 x44.2.2.2.2 x44.2.1) x44.2.1.length
  have hol := onlyP_len (fun j => decide (j ∈ (runP x44.1 x44.2.2.2.1 x44.2.2.2.2 x44.2.1).pl)) x44.2.1 x44.2.1.length
  refine WL.rd (RD.move rfl) rfl rfl ?_
  refine WL.rd (RD.extract rfl rfl) rfl rfl ?_
  refine WL.rd (RD.extract rfl rfl) rfl rfl ?_
  refine WL.rd (RD.extract rfl rfl) rfl rfl ?_
  refine WL.efS (EF.allocA) rfl rfl ?_
  intro b3 _
  refine WL.efN (EF.storeA rfl rfl rfl rfl) rfl ?_
  rintro ⟨⟩ -
  refine WL.rd (RD.assign rfl) rfl rfl ?_
  refine WL.rd (RD.assign rfl) rfl rfl ?_
  refine WL.nil ?_
  refine JE.seqN ?_
  refine J.seq ?_
  refine J.reg ?_
  refine WL.rd (RD.loadA rfl rfl) rfl rfl ?_
  refine WL.rd (RD.move rfl) rfl rfl ?_
  refine WL.rd (RD.move rfl) rfl rfl ?_
  refine WL.efS (EF.callN (.cons rfl (.cons rfl (.cons rfl .nil))) (fun w hS => iRunPebbles_c _ _ _ _ _ _ (by exact RdI.rd hS) (by first | assumption | (constructor <;> decide) | omega) (by first | assumption | (constructor <;> decide) | omega))) rfl rfl ?_
  rintro ⟨f52, t52, p52⟩ -
  refine WL.rd (RD.move rfl) rfl rfl ?_
  refine WL.rd (RD.extract rfl rfl) rfl rfl ?_
  refine WL.rd (RD.extract rfl rfl) rfl rfl ?_
  refine WL.efS (EF.allocA) rfl rfl ?_
  intro b6 _
  refine WL.efN (EF.storeA rfl rfl rfl rfl) rfl ?_
  rintro ⟨⟩ -
  refine WL.rd (RD.assign rfl) rfl rfl ?_
  refine WL.nil ?_
  refine JE.seqN ?_
  refine J.seq ?_
  refine J.reg ?_
  refine WL.rd (RD.loadA rfl rfl) rfl rfl ?_
  refine WL.rd (RD.move rfl) rfl rfl ?_
  refine WL.rd (RD.move rfl) rfl rfl ?_
  refine WL.efS (EF.callN (.cons rfl (.cons rfl (.cons rfl .nil))) (fun w hS => sRunPebbles_c _ _ _ _ _ _ (by exact RdI.rd hS) (by first | assumption | (constructor <;> decide) | omega) (by first | assumption | (constructor <;> decide) | omega) (by omega))) rfl rfl ?_
  rintro ⟨f59, t59, p59⟩ -
  refine WL.rd (RD.move rfl) rfl rfl ?_
  refine WL.rd (RD.extract rfl rfl) rfl rfl ?_
  refine WL.rd (RD.extract rfl rfl) rfl rfl ?_
  refine WL.efS (EF.allocA) rfl rfl ?_
  intro b8 _
  refine WL.efN (EF.storeA rfl rfl rfl rfl) rfl ?_
  rintro ⟨⟩ -
  refine WL.rd (RD.assign rfl) rfl rfl ?_
  refine WL.nil ?_
  refine JE.seqN ?_
  refine J.seq ?_
  refine J.reg ?_
  refine WL.rd (RD.loadA rfl rfl) rfl rfl ?_
  refine WL.rd (RD.move rfl) rfl rfl ?_
  refine WL.rd (RD.move rfl) rfl rfl ?_
  refine WL.efS (EF.callN (.cons rfl (.cons rfl (.cons rfl .nil))) (fun w hS => iAcceptedBars_c _ _ _ _ _ _ (by exact RdI.rd hS) (by first | assumption | (constructor <;> decide) | omega) (by first | assumption | (constructor <;> decide) | omega))) rfl rfl ?_
  rintro v65 -
  refine WL.rd (RD.assign rfl) rfl rfl ?_
  refine WL.nil ?_
  refine JE.seqN ?_
  refine J.seq ?_
  refine J.reg ?_
  refine WL.rd (RD.loadA rfl rfl) rfl rfl ?_
  refine WL.rd (RD.move rfl) rfl rfl ?_
  refine WL.rd (RD.move rfl) rfl rfl ?_
  refine WL.efS (EF.callN (.cons rfl (.cons rfl (.cons rfl .nil))) (fun w hS => iRejectedBars_c _ _ _ _ _ _ (by exact RdI.rd hS) (by first | assumption | (constructor <;> decide) | omega) (by first | assumption | (constructor <;> decide) | omega) (by omega))) rfl rfl ?_
  rintro v69 -
  refine WL.rd (RD.assign rfl) rfl rfl ?_
  refine WL.nil ?_
  refine JE.seqN ?_
  refine J.cut (fun ee mm => ((True)) ∧ ee = [(0, vb), (3, .pointer (some ⟨b3, 0, none⟩)), (4, .int .i64 x44.2.2.2.1), (5, .int .i64 x44.2.2.2.2), (7, .bool (decide (isG x44.1 x44.2.1 ∧ (1 ≤ x44.2.2.2.1 ∧ x44.2.2.2.1 ≤ 3 ∧ 0 ≤ x44.2.2.2.2 ∧ x44.2.2.2.2 < 2 * x44.2.2.2.1)))), (8, .pointer (some ⟨b8, 0, none⟩)), (10, v65), (11, v69)] ∧ mm = [.row v69 3 1 (((pickIx (rejF x44.1 x44.2.2.2.1 x44.2.2.2.2 x44.2.1) x44.2.1.length)).map iv), .row v65 3 1 (((runP x44.1 x44.2.2.2.1 x44.2.2.2.2 x44.2.1).pl).map iv), .cells b8 31 [f59, t59, p59], .row f59 3 1 (((runP x44.1 x44.2.2.2.1 x44.2.2.2.2 x44.2.1).f).map iv), .row t59 3 1 (((runP x44.1 x44.2.2.2.1 x44.2.2.2.2 x44.2.1).t).map iv), .row p59 3 1 (((runP x44.1 x44.2.2.2.1 x44.2.2.2.2 x44.2.1).pl).map iv), .cells b3 26 [.int .i64 x44.1, x44.2.2.1], .row x44.2.2.1 59 2 ((x44.2.1).map bv), .ro vb 1 (xb.map yv)]) ?_ ?_
  ·
   refine J.seq ?_
   refine J.reg ?_
   refine WL.rd (RD.move rfl) rfl rfl ?_
   refine WL.rd (RD.move rfl) rfl rfl ?_
   refine WL.rd (RD.neqB rfl rfl) rfl rfl ?_
   refine WL.rd (RD.move rfl) rfl rfl ?_
   refine WL.case 73 rfl (fun hg73 => ?_) (fun hg73 => ?_)
   ·
    refine WL.noS rfl rfl ?_
    refine WL.noS rfl rfl ?_
    refine WL.noS rfl rfl ?_
    refine WL.noS rfl rfl ?_
    refine WL.rd (RD.pickT rfl rfl) rfl rfl ?_
    refine WL.rd (RD.move rfl) rfl rfl ?_
    refine WL.noS rfl rfl ?_
    refine WL.noS rfl rfl ?_
    refine WL.noS rfl rfl ?_
    refine WL.noS rfl rfl ?_
    refine WL.noS rfl rfl ?_
    refine WL.noS rfl rfl ?_
    refine WL.noS rfl rfl ?_
    refine WL.rd (RD.pickT rfl rfl) rfl rfl ?_
    refine WL.rd (RD.move rfl) rfl rfl ?_
    refine WL.noS rfl rfl ?_
    refine WL.noS rfl rfl ?_
    refine WL.noS rfl rfl ?_
    refine WL.noS rfl rfl ?_
    refine WL.noS rfl rfl ?_
    refine WL.noS rfl rfl ?_
    refine WL.noS rfl rfl ?_
    refine WL.rd (RD.pickT rfl rfl) rfl rfl ?_
    refine WL.nil ?_
    refine JE.seqN ?_
    refine J.condT rfl ?_
    refine J.seq ?_
    refine J.reg ?_
    refine WL.rd (RD.assign rfl) rfl rfl ?_
    refine WL.nil ?_
    refine JE.seqN ?_
    refine J.ret ?_
    refine JE.ret rfl (.tmp rfl .nil) (fun w hS => ?_)
    first | exact CS.fin hS rfl | (exfalso; omega) | exact CS.fin hS (by simp_all)
   ·
    refine WL.rd (RD.loadA rfl rfl) rfl rfl ?_
    refine WL.rd (RD.loadA rfl rfl) rfl rfl ?_
    refine WL.efS (EF.callS (.cons rfl (.cons rfl .nil)) (fun w hS => samePebbles_c _ _ _ _ _ _ _ _ _ _ _ _ _ (by exact RdI.rd hS) (by exact RdI.rd hS) (by exact RdI.rd hS) (by exact RdI.rd hS) (by exact RdI.rd hS) (by exact RdI.rd hS))) rfl rfl ?_
    rintro ⟨⟩ -
    refine WL.rd (RD.notP rfl) rfl rfl ?_
    refine WL.rd (RD.pickF rfl rfl) rfl rfl ?_
    refine WL.rd (RD.move rfl) rfl rfl ?_
    refine WL.caseP 79 rfl (fun hg79 => ?_) (fun hg79 => ?_)
    ·
     refine WL.noS rfl rfl ?_
     refine WL.noS rfl rfl ?_
     refine WL.noS rfl rfl ?_
     refine WL.noS rfl rfl ?_
     refine WL.noS rfl rfl ?_
     refine WL.noS rfl rfl ?_
     refine WL.noS rfl rfl ?_
     refine WL.rd (RD.pickT rfl rfl) rfl rfl ?_
     refine WL.rd (RD.move rfl) rfl rfl ?_
     refine WL.noS rfl rfl ?_
     refine WL.noS rfl rfl ?_
     refine WL.noS rfl rfl ?_
     refine WL.noS rfl rfl ?_
     refine WL.noS rfl rfl ?_
     refine WL.noS rfl rfl ?_
     refine WL.noS rfl rfl ?_
     refine WL.rd (RD.pickT rfl rfl) rfl rfl ?_
     refine WL.nil ?_
     refine JE.seqN ?_
     refine J.condT rfl ?_
     refine J.seq ?_
     refine J.reg ?_
     refine WL.rd (RD.assign rfl) rfl rfl ?_
     refine WL.nil ?_
     refine JE.seqN ?_
     refine J.ret ?_
     refine JE.ret rfl (.tmp rfl .nil) (fun w hS => ?_)
     first | exact CS.fin hS rfl | (exfalso; omega) | exact CS.fin hS (by simp_all)
    ·
     refine WL.rd (RD.move rfl) rfl rfl ?_
     refine WL.rd (RD.loadA rfl rfl) rfl rfl ?_
     refine WL.rd (RD.move rfl) rfl rfl ?_
     refine WL.rd (RD.move rfl) rfl rfl ?_
     refine WL.efS (EF.callN (.cons rfl (.cons rfl (.cons rfl .nil))) (fun w hS => sAcceptedBars_c _ _ _ _ _ _ (by exact RdI.rd hS) (by first | assumption | (constructor <;> decide) | omega) (by first | assumption | (constructor <;> decide) | omega) (by omega))) rfl rfl ?_
     rintro v84 -
     refine WL.efS (EF.callS (.cons rfl (.cons rfl .nil)) (fun w hS => sameInts_c _ _ _ _ _ (by exact RdI.rd hS) (by exact RdI.rd hS))) rfl rfl ?_
     rintro ⟨⟩ -
     refine WL.rd (RD.notP rfl) rfl rfl ?_
     refine WL.rd (RD.pickF rfl rfl) rfl rfl ?_
     refine WL.rd (RD.move rfl) rfl rfl ?_
     refine WL.caseP 88 rfl (fun hg88 => ?_) (fun hg88 => ?_)
     ·
      refine WL.noS rfl rfl ?_
      refine WL.noS rfl rfl ?_
      refine WL.noS rfl rfl ?_
      refine WL.noS rfl rfl ?_
      refine WL.noS rfl rfl ?_
      refine WL.noS rfl rfl ?_
      refine WL.noS rfl rfl ?_
      refine WL.rd (RD.pickT rfl rfl) rfl rfl ?_
      refine WL.nil ?_
      refine JE.seqN ?_
      refine J.condT rfl ?_
      refine J.seq ?_
      refine J.reg ?_
      refine WL.rd (RD.assign rfl) rfl rfl ?_
      refine WL.nil ?_
      refine JE.seqN ?_
      refine J.ret ?_
      refine JE.ret rfl (.tmp rfl .nil) (fun w hS => ?_)
      first | exact CS.fin hS rfl | (exfalso; omega) | exact CS.fin hS (by simp_all)
     ·
      refine WL.rd (RD.move rfl) rfl rfl ?_
      refine WL.rd (RD.loadA rfl rfl) rfl rfl ?_
      refine WL.rd (RD.move rfl) rfl rfl ?_
      refine WL.rd (RD.move rfl) rfl rfl ?_
      refine WL.efS (EF.callN (.cons rfl (.cons rfl (.cons rfl .nil))) (fun w hS => sRejectedBars_c _ _ _ _ _ _ (by exact RdI.rd hS) (by first | assumption | (constructor <;> decide) | omega) (by first | assumption | (constructor <;> decide) | omega) (by omega))) rfl rfl ?_
      rintro v93 -
      refine WL.efS (EF.callS (.cons rfl (.cons rfl .nil)) (fun w hS => sameInts_c _ _ _ _ _ (by exact RdI.rd hS) (by exact RdI.rd hS))) rfl rfl ?_
      rintro ⟨⟩ -
      refine WL.rd (RD.notP rfl) rfl rfl ?_
      refine WL.rd (RD.pickF rfl rfl) rfl rfl ?_
      refine WL.nil ?_
      refine JE.seqN ?_
      refine J.condP rfl (fun hc96 => ?_) (fun hc96 => ?_)
      ·
       refine J.seq ?_
       refine J.reg ?_
       refine WL.rd (RD.assign rfl) rfl rfl ?_
       refine WL.nil ?_
       refine JE.seqN ?_
       refine J.ret ?_
       refine JE.ret rfl (.tmp rfl .nil) (fun w hS => ?_)
       first | exact CS.fin hS rfl | (exfalso; omega) | exact CS.fin hS (by simp_all)
      ·
       refine J.skip ?_
       refine JE.cutN ⟨?_, rfl, rfl⟩ ?_ ?_
       · trivial
       · exact (Sub.consE rfl (by first | rfl | (congr 1; omega) | (simp; done)) (Sub.consE rfl (by first | rfl | (congr 1; omega) | (simp; done)) (Sub.consE rfl (by first | rfl | (congr 1; omega) | (simp; done)) (Sub.consE rfl (by first | rfl | (congr 1; omega) | (simp; done)) (Sub.consE rfl (by first | rfl | (congr 1; omega) | (simp; done)) (Sub.consE rfl (by first | rfl | (congr 1; omega) | (simp; done)) (Sub.consE rfl (by first | rfl | (congr 1; omega) | (simp; done)) (Sub.consE rfl (by first | rfl | (congr 1; omega) | (simp; done)) .nil))))))))
       · exact (SubM.row rfl rfl (by first | rfl | (simp [iv, bv, yv, tv, sv]; done)) (SubM.row rfl rfl (by first | rfl | (simp [iv, bv, yv, tv, sv]; done)) (SubM.cells rfl (by first | rfl | (simp; done)) (SubM.row rfl rfl (by first | rfl | (simp [iv, bv, yv, tv, sv]; done)) (SubM.row rfl rfl (by first | rfl | (simp [iv, bv, yv, tv, sv]; done)) (SubM.row rfl rfl (by first | rfl | (simp [iv, bv, yv, tv, sv]; done)) (SubM.cells rfl (by first | rfl | (simp; done)) (SubM.row rfl rfl (by first | rfl | (simp [iv, bv, yv, tv, sv]; done)) (SubM.ro rfl (by first | rfl | (simp [iv, bv, yv, tv, sv]; done)) .nil)))))))))
  ·
   rintro _ _ ⟨-, rfl, rfl⟩
   refine J.cut (fun ee mm => ((True)) ∧ ee = [(0, vb)] ∧ mm = [.ro vb 1 (xb.map yv)]) ?_ ?_
   ·
    refine J.seq ?_
    refine J.anyAll [] ?_
    refine WA.takeP 0 rfl (RDP.of fun _ => RD.move rfl) rfl (by kernel_rfl) rfl ?_
    refine WA.takeP 1 rfl (RDP.of fun _ => RD.move rfl) rfl (by kernel_rfl) rfl ?_
    refine WA.caseP 98 rfl (fun hg98 => ?_) (fun hg98 => ?_)
    ·
     obtain ⟨⟨hr1, hr2⟩, ⟨hr3, hr4, hr5⟩, hr6, hr7⟩ := run_facts hg98
     have hbr := isP_bf hr1
     refine WA.take 2 rfl (RD.loadA rfl rfl) rfl (by kernel_rfl) rfl ?_
     refine WA.takeP 3 rfl (RDP.of fun _ => RD.move rfl) rfl (by kernel_rfl) rfl ?_
     refine WA.take 4 rfl (RD.loadA rfl rfl) rfl (by kernel_rfl) rfl ?_
     refine WA.one (i := 5) (by kernel_rfl) ?_
     refine WAi.efS rfl (EF.callS (.cons rfl (.cons rfl (.cons rfl .nil))) (fun w hS => iIsPebbles_c _ _ _ _ _ _ _ _ _ _ _ (by exact RdI.rd hS) (by exact RdI.rd hS) (by exact RdI.rd hS) (by exact RdI.rd hS) (by assumption))) rfl rfl (fun _ => by repeat (first | exact subM_refl _ | refine subM_app _ ?_ | refine subM_con _ ?_)) ?_
     rintro ⟨⟩ -
     refine WA.takeP 6 rfl (RDP.of fun _ => RD.notP rfl) rfl (by kernel_rfl) rfl ?_
     refine WA.takeP 7 rfl (RDP.of fun _ => RD.move rfl) rfl (by kernel_rfl) rfl ?_
     refine WA.caseP 104 rfl (fun hg104 => ?_) (fun hg104 => ?_)
     ·
      exfalso
      exact hg104 hr1
     ·
      refine WA.takeP 8 rfl (RDP.of fun _ => RD.move rfl) rfl (by kernel_rfl) rfl ?_
      refine WA.takeP 9 rfl (RDP.lenR rfl) rfl (by kernel_rfl) rfl ?_
      refine WA.takeP 10 rfl (RDP.of fun _ => RD.move rfl) rfl (by kernel_rfl) rfl ?_
      refine WA.takeP 11 rfl (RDP.lenR rfl) rfl (by kernel_rfl) rfl ?_
      refine WA.takeP 12 rfl (RDP.of fun _ => RD.add rfl rfl (by omega) (by omega)) rfl (by kernel_rfl) rfl ?_
      refine WA.takeP 13 rfl (RDP.of fun _ => RD.fieldC rfl rfl) rfl (by kernel_rfl) rfl ?_
      refine WA.take 14 rfl (RD.loadC rfl rfl) rfl (by kernel_rfl) rfl ?_
      refine WA.takeP 15 rfl (RDP.lenR rfl) rfl (by kernel_rfl) rfl ?_
      refine WA.takeP 16 rfl (RDP.of fun _ => RD.neq rfl rfl) rfl (by kernel_rfl) rfl ?_
      refine WA.takeP 17 rfl (RDP.of fun _ => RD.pickF rfl rfl) rfl (by kernel_rfl) rfl ?_
      refine WA.takeP 18 rfl (RDP.of fun _ => RD.move rfl) rfl (by kernel_rfl) rfl ?_
      refine WA.caseP 115 rfl (fun hg115 => ?_) (fun hg115 => ?_)
      ·
       refine WA.no 19 rfl rfl (by kernel_rfl) rfl ?_
       refine WA.no 20 rfl rfl (by kernel_rfl) rfl ?_
       refine WA.no 21 rfl rfl (by kernel_rfl) rfl ?_
       refine WA.no 22 rfl rfl (by kernel_rfl) rfl ?_
       refine WA.no 23 rfl rfl (by kernel_rfl) rfl ?_
       refine WA.no 24 rfl rfl (by kernel_rfl) rfl ?_
       refine WA.no 25 rfl rfl (by kernel_rfl) rfl ?_
       refine WA.no 26 rfl rfl (by kernel_rfl) rfl ?_
       refine WA.no 27 rfl rfl (by kernel_rfl) rfl ?_
       refine WA.no 28 rfl rfl (by kernel_rfl) rfl ?_
       refine WA.takeP 29 rfl (RDP.of fun _ => RD.pickT rfl rfl) rfl (by kernel_rfl) rfl ?_
       refine WA.takeP 30 rfl (RDP.of fun _ => RD.move rfl) rfl (by kernel_rfl) rfl ?_
       refine WA.no 31 rfl rfl (by kernel_rfl) rfl ?_
       refine WA.no 32 rfl rfl (by kernel_rfl) rfl ?_
       refine WA.no 33 rfl rfl (by kernel_rfl) rfl ?_
       refine WA.no 34 rfl rfl (by kernel_rfl) rfl ?_
       refine WA.no 35 rfl rfl (by kernel_rfl) rfl ?_
       refine WA.no 36 rfl rfl (by kernel_rfl) rfl ?_
       refine WA.no 37 rfl rfl (by kernel_rfl) rfl ?_
       refine WA.no 38 rfl rfl (by kernel_rfl) rfl ?_
       refine WA.takeP 39 rfl (RDP.of fun _ => RD.pickT rfl rfl) rfl (by kernel_rfl) rfl ?_
       refine WA.takeP 40 rfl (RDP.of fun _ => RD.move rfl) rfl (by kernel_rfl) rfl ?_
       refine WA.no 41 rfl rfl (by kernel_rfl) rfl ?_
       refine WA.no 42 rfl rfl (by kernel_rfl) rfl ?_
       refine WA.no 43 rfl rfl (by kernel_rfl) rfl ?_
       refine WA.no 44 rfl rfl (by kernel_rfl) rfl ?_
       refine WA.no 45 rfl rfl (by kernel_rfl) rfl ?_
       refine WA.no 46 rfl rfl (by kernel_rfl) rfl ?_
       refine WA.no 47 rfl rfl (by kernel_rfl) rfl ?_
       refine WA.takeP 48 rfl (RDP.of fun _ => RD.pickT rfl rfl) rfl (by kernel_rfl) rfl ?_
       refine WA.takeP 49 rfl (RDP.of fun _ => RD.pickT rfl rfl) rfl (by kernel_rfl) rfl ?_
       refine WA.done (by kernel_rfl) ?_
       refine JE.seqN ?_
       refine J.condT rfl ?_
       refine J.seq ?_
       refine J.reg ?_
       refine WL.rd (RD.assign rfl) rfl rfl ?_
       refine WL.nil ?_
       refine JE.seqN ?_
       refine J.ret ?_
       refine JE.ret rfl (.tmp rfl .nil) (fun w hS => ?_)
       first | exact CS.fin hS rfl | (exfalso; omega) | exact CS.fin hS (by simp_all [mkRes])
      ·
       refine WA.take 19 rfl (RD.loadA rfl rfl) rfl (by kernel_rfl) rfl ?_
       refine WA.takeP 21 rfl (RDP.of fun _ => RD.move rfl) rfl (by kernel_rfl) rfl ?_
       refine WA.takeP 22 rfl (RDP.lenR rfl) rfl (by kernel_rfl) rfl ?_
       refine WA.takeP 24 rfl (RDP.of fun _ => RD.move rfl) rfl (by kernel_rfl) rfl ?_
       refine WA.takeP 25 rfl (RDP.of fun _ => RD.fieldC rfl rfl) rfl (by kernel_rfl) rfl ?_
       refine WA.take 26 rfl (RD.loadC rfl rfl) rfl (by kernel_rfl) rfl ?_
       refine WA.takeP 27 rfl (RDP.of fun _ => RD.mul rfl rfl (by omega) (by omega)) rfl (by kernel_rfl) rfl ?_
       refine WA.one (i := 20) (by kernel_rfl) ?_
       refine WAi.efS rfl (EF.callS (.cons rfl .nil) (fun w hS => iFreePebbles_c _ _ _ _ _ _ _ (by exact RdI.rd hS) (by exact RdI.rd hS) (by exact RdI.rd hS))) rfl rfl (fun _ => by repeat (first | exact subM_refl _ | refine subM_app _ ?_ | refine subM_con _ ?_)) ?_
       rintro ⟨⟩ -
       refine WA.takeP 23 rfl (RDP.of fun _ => RD.add rfl rfl (by omega) (by omega)) rfl (by kernel_rfl) rfl ?_
       refine WA.takeP 28 rfl (RDP.of fun _ => RD.neq rfl rfl) rfl (by kernel_rfl) rfl ?_
       refine WA.takeP 29 rfl (RDP.of fun _ => RD.pickF rfl rfl) rfl (by kernel_rfl) rfl ?_
       refine WA.takeP 30 rfl (RDP.of fun _ => RD.move rfl) rfl (by kernel_rfl) rfl ?_
       refine WA.caseP 127 rfl (fun hg127 => ?_) (fun hg127 => ?_)
       ·
        refine WA.no 31 rfl rfl (by kernel_rfl) rfl ?_
        refine WA.no 32 rfl rfl (by kernel_rfl) rfl ?_
        refine WA.no 33 rfl rfl (by kernel_rfl) rfl ?_
        refine WA.no 34 rfl rfl (by kernel_rfl) rfl ?_
        refine WA.no 35 rfl rfl (by kernel_rfl) rfl ?_
        refine WA.no 36 rfl rfl (by kernel_rfl) rfl ?_
        refine WA.no 37 rfl rfl (by kernel_rfl) rfl ?_
        refine WA.no 38 rfl rfl (by kernel_rfl) rfl ?_
        refine WA.takeP 39 rfl (RDP.of fun _ => RD.pickT rfl rfl) rfl (by kernel_rfl) rfl ?_
        refine WA.takeP 40 rfl (RDP.of fun _ => RD.move rfl) rfl (by kernel_rfl) rfl ?_
        refine WA.no 41 rfl rfl (by kernel_rfl) rfl ?_
        refine WA.no 42 rfl rfl (by kernel_rfl) rfl ?_
        refine WA.no 43 rfl rfl (by kernel_rfl) rfl ?_
        refine WA.no 44 rfl rfl (by kernel_rfl) rfl ?_
        refine WA.no 45 rfl rfl (by kernel_rfl) rfl ?_
        refine WA.no 46 rfl rfl (by kernel_rfl) rfl ?_
        refine WA.no 47 rfl rfl (by kernel_rfl) rfl ?_
        refine WA.takeP 48 rfl (RDP.of fun _ => RD.pickT rfl rfl) rfl (by kernel_rfl) rfl ?_
        refine WA.takeP 49 rfl (RDP.of fun _ => RD.pickT rfl rfl) rfl (by kernel_rfl) rfl ?_
        refine WA.done (by kernel_rfl) ?_
        refine JE.seqN ?_
        refine J.condT rfl ?_
        refine J.seq ?_
        refine J.reg ?_
        refine WL.rd (RD.assign rfl) rfl rfl ?_
        refine WL.nil ?_
        refine JE.seqN ?_
        refine J.ret ?_
        refine JE.ret rfl (.tmp rfl .nil) (fun w hS => ?_)
        first | exact CS.fin hS rfl | (exfalso; omega) | exact CS.fin hS (by simp_all [mkRes])
       ·
        refine WA.takeP 31 rfl (RDP.of fun _ => RD.move rfl) rfl (by kernel_rfl) rfl ?_
        refine WA.takeP 32 rfl (RDP.lenR rfl) rfl (by kernel_rfl) rfl ?_
        refine WA.takeP 33 rfl (RDP.of fun _ => RD.eql rfl rfl) rfl (by kernel_rfl) rfl ?_
        refine WA.take 34 rfl (RD.loadA rfl rfl) rfl (by kernel_rfl) rfl ?_
        refine WA.takeP 35 rfl (RDP.of fun _ => RD.move rfl) rfl (by kernel_rfl) rfl ?_
        refine WA.takeP 36 rfl (RDP.of fun _ => RD.move rfl) rfl (by kernel_rfl) rfl ?_
        refine WA.one (i := 37) (by kernel_rfl) ?_
        refine WAi.efS rfl (EF.callS (.cons rfl (.cons rfl (.cons rfl .nil))) (fun w hS => sIsSparse_c _ _ _ _ _ _ (by exact RdI.rd hS) (by assumption) (by assumption))) rfl rfl (fun _ => by repeat (first | exact subM_refl _ | refine subM_app _ ?_ | refine subM_con _ ?_)) ?_
        rintro ⟨⟩ -
        refine WA.takeP 38 rfl (RDP.of fun _ => RD.neqB rfl rfl) rfl (by kernel_rfl) rfl ?_
        refine WA.takeP 39 rfl (RDP.of fun _ => RD.pickF rfl rfl) rfl (by kernel_rfl) rfl ?_
        refine WA.takeP 40 rfl (RDP.of fun _ => RD.move rfl) rfl (by kernel_rfl) rfl ?_
        refine WA.case 137 rfl (fun hg137 => ?_) (fun hg137 => ?_)
        ·
         refine WA.no 41 rfl rfl (by kernel_rfl) rfl ?_
         refine WA.no 42 rfl rfl (by kernel_rfl) rfl ?_
         refine WA.no 43 rfl rfl (by kernel_rfl) rfl ?_
         refine WA.no 44 rfl rfl (by kernel_rfl) rfl ?_
         refine WA.no 45 rfl rfl (by kernel_rfl) rfl ?_
         refine WA.no 46 rfl rfl (by kernel_rfl) rfl ?_
         refine WA.no 47 rfl rfl (by kernel_rfl) rfl ?_
         refine WA.takeP 48 rfl (RDP.of fun _ => RD.pickT rfl rfl) rfl (by kernel_rfl) rfl ?_
         refine WA.takeP 49 rfl (RDP.of fun _ => RD.pickT rfl rfl) rfl (by kernel_rfl) rfl ?_
         refine WA.done (by kernel_rfl) ?_
         refine JE.seqN ?_
         refine J.condT rfl ?_
         refine J.seq ?_
         refine J.reg ?_
         refine WL.rd (RD.assign rfl) rfl rfl ?_
         refine WL.nil ?_
         refine JE.seqN ?_
         refine J.ret ?_
         refine JE.ret rfl (.tmp rfl .nil) (fun w hS => ?_)
         first | exact CS.fin hS rfl | (exfalso; omega) | exact CS.fin hS (by simp_all)
        ·
         refine WA.take 41 rfl (RD.loadA rfl rfl) rfl (by kernel_rfl) rfl ?_
         refine WA.takeP 42 rfl (RDP.of fun _ => RD.move rfl) rfl (by kernel_rfl) rfl ?_
         refine WA.takeP 44 rfl (RDP.of fun _ => RD.move rfl) rfl (by kernel_rfl) rfl ?_
         refine WA.takeP 45 rfl (RDP.of fun _ => RD.move rfl) rfl (by kernel_rfl) rfl ?_
         refine WA.one (i := 43) (by kernel_rfl) ?_
         refine WAi.efS rfl (EF.callN (.cons rfl (.cons rfl .nil)) (fun w hS => sOnlyBars_c _ _ _ _ _ _ (by exact RdI.rd hS) (by exact RdI.rd hS) (by omega))) rfl rfl (fun _ => by repeat (first | exact subM_refl _ | refine subM_app _ ?_ | refine subM_con _ ?_)) ?_
         rintro v140 -
         refine WA.one (i := 46) (by kernel_rfl) ?_
         refine WAi.efS rfl (EF.callS (.cons rfl (.cons rfl (.cons rfl .nil))) (fun w hS => sIsSparse_c _ _ _ _ _ _ (by exact RdI.rd hS) (by assumption) (by assumption))) rfl rfl (fun _ => by repeat (first | exact subM_refl _ | refine subM_app _ ?_ | refine subM_con _ ?_)) ?_
         rintro ⟨⟩ -
         refine WA.takeP 47 rfl (RDP.of fun _ => RD.notP rfl) rfl (by kernel_rfl) rfl ?_
         refine WA.takeP 48 rfl (RDP.of fun _ => RD.pickF rfl rfl) rfl (by kernel_rfl) rfl ?_
         refine WA.takeP 49 rfl (RDP.of fun _ => RD.pickT rfl rfl) rfl (by kernel_rfl) rfl ?_
         refine WA.done (by kernel_rfl) ?_
         refine JE.seqN ?_
         refine J.condP rfl (fun hc146 => ?_) (fun hc146 => ?_)
         ·
          refine J.seq ?_
          refine J.reg ?_
          refine WL.rd (RD.assign rfl) rfl rfl ?_
          refine WL.nil ?_
          refine JE.seqN ?_
          refine J.ret ?_
          refine JE.ret rfl (.tmp rfl .nil) (fun w hS => ?_)
          first | exact CS.fin hS rfl | (exfalso; omega) | exact CS.fin hS (by simp_all)
         ·
          refine J.skip ?_
          refine JE.cutN ⟨?_, rfl, rfl⟩ ?_ ?_
          · trivial
          · exact (Sub.consE rfl (by first | rfl | (congr 1; omega) | (simp; done)) .nil)
          · exact (SubM.ro rfl (by first | rfl | (simp [iv, bv, yv, tv, sv]; done)) .nil)
    ·
     refine WA.no 2 rfl rfl (by kernel_rfl) rfl ?_
     refine WA.no 3 rfl rfl (by kernel_rfl) rfl ?_
     refine WA.no 4 rfl rfl (by kernel_rfl) rfl ?_
     refine WA.no 5 rfl rfl (by kernel_rfl) rfl ?_
     refine WA.no 6 rfl rfl (by kernel_rfl) rfl ?_
     refine WA.no 7 rfl rfl (by kernel_rfl) rfl ?_
     refine WA.no 8 rfl rfl (by kernel_rfl) rfl ?_
     refine WA.no 9 rfl rfl (by kernel_rfl) rfl ?_
     refine WA.no 10 rfl rfl (by kernel_rfl) rfl ?_
     refine WA.no 11 rfl rfl (by kernel_rfl) rfl ?_
     refine WA.no 12 rfl rfl (by kernel_rfl) rfl ?_
     refine WA.no 13 rfl rfl (by kernel_rfl) rfl ?_
     refine WA.no 14 rfl rfl (by kernel_rfl) rfl ?_
     refine WA.no 15 rfl rfl (by kernel_rfl) rfl ?_
     refine WA.no 16 rfl rfl (by kernel_rfl) rfl ?_
     refine WA.no 17 rfl rfl (by kernel_rfl) rfl ?_
     refine WA.no 18 rfl rfl (by kernel_rfl) rfl ?_
     refine WA.no 19 rfl rfl (by kernel_rfl) rfl ?_
     refine WA.no 20 rfl rfl (by kernel_rfl) rfl ?_
     refine WA.no 21 rfl rfl (by kernel_rfl) rfl ?_
     refine WA.no 22 rfl rfl (by kernel_rfl) rfl ?_
     refine WA.no 23 rfl rfl (by kernel_rfl) rfl ?_
     refine WA.no 24 rfl rfl (by kernel_rfl) rfl ?_
     refine WA.no 25 rfl rfl (by kernel_rfl) rfl ?_
     refine WA.no 26 rfl rfl (by kernel_rfl) rfl ?_
     refine WA.no 27 rfl rfl (by kernel_rfl) rfl ?_
     refine WA.no 28 rfl rfl (by kernel_rfl) rfl ?_
     refine WA.no 29 rfl rfl (by kernel_rfl) rfl ?_
     refine WA.no 30 rfl rfl (by kernel_rfl) rfl ?_
     refine WA.no 31 rfl rfl (by kernel_rfl) rfl ?_
     refine WA.no 32 rfl rfl (by kernel_rfl) rfl ?_
     refine WA.no 33 rfl rfl (by kernel_rfl) rfl ?_
     refine WA.no 34 rfl rfl (by kernel_rfl) rfl ?_
     refine WA.no 35 rfl rfl (by kernel_rfl) rfl ?_
     refine WA.no 36 rfl rfl (by kernel_rfl) rfl ?_
     refine WA.no 37 rfl rfl (by kernel_rfl) rfl ?_
     refine WA.no 38 rfl rfl (by kernel_rfl) rfl ?_
     refine WA.no 39 rfl rfl (by kernel_rfl) rfl ?_
     refine WA.no 40 rfl rfl (by kernel_rfl) rfl ?_
     refine WA.no 41 rfl rfl (by kernel_rfl) rfl ?_
     refine WA.no 42 rfl rfl (by kernel_rfl) rfl ?_
     refine WA.no 43 rfl rfl (by kernel_rfl) rfl ?_
     refine WA.no 44 rfl rfl (by kernel_rfl) rfl ?_
     refine WA.no 45 rfl rfl (by kernel_rfl) rfl ?_
     refine WA.no 46 rfl rfl (by kernel_rfl) rfl ?_
     refine WA.no 47 rfl rfl (by kernel_rfl) rfl ?_
     refine WA.no 48 rfl rfl (by kernel_rfl) rfl ?_
     refine WA.takeP 49 rfl (RDP.of fun _ => RD.pickF rfl rfl) rfl (by kernel_rfl) rfl ?_
     refine WA.done (by kernel_rfl) ?_
     refine JE.seqN ?_
     refine J.condF rfl ?_
     refine J.skip ?_
     refine JE.cutN ⟨?_, rfl, rfl⟩ ?_ ?_
     · trivial
     · exact (Sub.consE rfl (by first | rfl | (congr 1; omega) | (simp; done)) .nil)
     · exact (SubM.ro rfl (by first | rfl | (simp [iv, bv, yv, tv, sv]; done)) .nil)
   ·
    rintro _ _ ⟨-, rfl, rfl⟩
    refine J.seq ?_
    refine J.reg ?_
    refine WL.rd (RD.move rfl) rfl rfl ?_
    refine WL.efS (EF.callN (.cons rfl .nil) (fun w hS => DrawGatherPebbles_c vb xb _ (by exact RdI.rd hS) (by omega))) rfl rfl ?_
    rintro x149 hx149
    have hbf149 := hx149.2.1.bf (by decide)
    have hpn149 := hx149.2.1.1
    have hgb := gpI_bnd (n := x149.1) (k := x149.2.2.2.1) (xs := x149.2.1) (a := x149.2.2.2.2.2.2.2.2.1) (b := x149.2.2.2.2.2.2.2.2.2.1) (want := x149.2.2.2.2.2.2.2.2.2.2) hx149.2.1
    have hgb4 := hgb.2.2.2
    refine WL.rd (RD.move rfl) rfl rfl ?_
    refine WL.rd (RD.extract rfl rfl) rfl rfl ?_
    refine WL.rd (RD.extract rfl rfl) rfl rfl ?_
    refine WL.rd (RD.extract rfl rfl) rfl rfl ?_
    refine WL.rd (RD.extract rfl rfl) rfl rfl ?_
    refine WL.rd (RD.extract rfl rfl) rfl rfl ?_
    refine WL.rd (RD.extract rfl rfl) rfl rfl ?_
    refine WL.efS (EF.allocA) rfl rfl ?_
    intro b12 _
    refine WL.efS (EF.allocA) rfl rfl ?_
    intro b14 _
    refine WL.efN (EF.storeA rfl rfl rfl rfl) rfl ?_
    rintro ⟨⟩ -
    refine WL.rd (RD.assign rfl) rfl rfl ?_
    refine WL.efN (EF.storeA rfl rfl rfl rfl) rfl ?_
    rintro ⟨⟩ -
    refine WL.rd (RD.assign rfl) rfl rfl ?_
    refine WL.rd (RD.assign rfl) rfl rfl ?_
    refine WL.rd (RD.assign rfl) rfl rfl ?_
    refine WL.nil ?_
    refine JE.seqN ?_
    refine J.seq ?_
    refine J.reg ?_
    refine WL.rd (RD.loadA rfl rfl) rfl rfl ?_
    refine WL.rd (RD.move rfl) rfl rfl ?_
    refine WL.rd (RD.loadA rfl rfl) rfl rfl ?_
    refine WL.rd (RD.move rfl) rfl rfl ?_
    refine WL.rd (RD.move rfl) rfl rfl ?_
    refine WL.rd (RD.move rfl) rfl rfl ?_
    refine WL.efS (EF.callN (.cons rfl (.cons rfl (.cons rfl (.cons rfl (.cons rfl (.cons rfl .nil)))))) (fun w hS => iGatherPebbles_c _ _ _ _ _ _ _ _ _ _ _ _ _ _ (by exact RdI.rd hS) (by exact RdI.rd hS) (by exact RdI.rd hS) (by exact RdI.rd hS) (by assumption) (by omega) (by omega) (by omega) (by omega))) rfl rfl ?_
    rintro ⟨f163, t163, p163⟩ -
    refine WL.rd (RD.move rfl) rfl rfl ?_
    refine WL.rd (RD.extract rfl rfl) rfl rfl ?_
    refine WL.rd (RD.extract rfl rfl) rfl rfl ?_
    refine WL.efS (EF.allocA) rfl rfl ?_
    intro b18 _
    refine WL.efN (EF.storeA rfl rfl rfl rfl) rfl ?_
    rintro ⟨⟩ -
    refine WL.rd (RD.assign rfl) rfl rfl ?_
    refine WL.nil ?_
    refine JE.seqN ?_
    refine J.seq ?_
    refine J.reg ?_
    refine WL.rd (RD.loadA rfl rfl) rfl rfl ?_
    refine WL.rd (RD.move rfl) rfl rfl ?_
    refine WL.rd (RD.loadA rfl rfl) rfl rfl ?_
    refine WL.rd (RD.move rfl) rfl rfl ?_
    refine WL.rd (RD.move rfl) rfl rfl ?_
    refine WL.rd (RD.move rfl) rfl rfl ?_
    refine WL.efS (EF.callN (.cons rfl (.cons rfl (.cons rfl (.cons rfl (.cons rfl (.cons rfl .nil)))))) (fun w hS => sGatherPebbles_c _ _ _ _ _ _ _ _ _ _ _ _ _ _ (by exact RdI.rd hS) (by exact RdI.rd hS) (by exact RdI.rd hS) (by exact RdI.rd hS) (by assumption) (by omega) (by omega) (by omega) (by omega))) rfl rfl ?_
    rintro ⟨f173, t173, p173⟩ -
    refine WL.rd (RD.move rfl) rfl rfl ?_
    refine WL.rd (RD.extract rfl rfl) rfl rfl ?_
    refine WL.rd (RD.extract rfl rfl) rfl rfl ?_
    refine WL.efS (EF.allocA) rfl rfl ?_
    intro b20 _
    refine WL.efN (EF.storeA rfl rfl rfl rfl) rfl ?_
    rintro ⟨⟩ -
    refine WL.rd (RD.assign rfl) rfl rfl ?_
    refine WL.nil ?_
    refine JE.seqN ?_
    refine J.cut (fun ee mm => ((True)) ∧ ee = [(0, vb)] ∧ mm = [.ro vb 1 (xb.map yv)]) ?_ ?_
    ·
     refine J.seq ?_
     refine J.anyAll [] ?_
     refine WA.takeP 0 rfl (RDP.of fun _ => RD.move rfl) rfl (by kernel_rfl) rfl ?_
     refine WA.takeP 1 rfl (RDP.of fun _ => RD.move rfl) rfl (by kernel_rfl) rfl ?_
     refine WA.takeP 2 rfl (RDP.of fun _ => RD.neqB rfl rfl) rfl (by kernel_rfl) rfl ?_
     refine WA.takeP 3 rfl (RDP.of fun _ => RD.move rfl) rfl (by kernel_rfl) rfl ?_
     refine WA.case 179 rfl (fun hg179 => ?_) (fun hg179 => ?_)
     ·
      refine WA.no 4 rfl rfl (by kernel_rfl) rfl ?_
      refine WA.no 5 rfl rfl (by kernel_rfl) rfl ?_
      refine WA.no 6 rfl rfl (by kernel_rfl) rfl ?_
      refine WA.no 7 rfl rfl (by kernel_rfl) rfl ?_
      refine WA.takeP 8 rfl (RDP.of fun _ => RD.pickT rfl rfl) rfl (by kernel_rfl) rfl ?_
      refine WA.takeP 9 rfl (RDP.of fun _ => RD.move rfl) rfl (by kernel_rfl) rfl ?_
      refine WA.no 10 rfl rfl (by kernel_rfl) rfl ?_
      refine WA.no 11 rfl rfl (by kernel_rfl) rfl ?_
      refine WA.no 12 rfl rfl (by kernel_rfl) rfl ?_
      refine WA.no 13 rfl rfl (by kernel_rfl) rfl ?_
      refine WA.no 14 rfl rfl (by kernel_rfl) rfl ?_
      refine WA.no 15 rfl rfl (by kernel_rfl) rfl ?_
      refine WA.no 16 rfl rfl (by kernel_rfl) rfl ?_
      refine WA.no 17 rfl rfl (by kernel_rfl) rfl ?_
      refine WA.no 18 rfl rfl (by kernel_rfl) rfl ?_
      refine WA.no 19 rfl rfl (by kernel_rfl) rfl ?_
      refine WA.no 20 rfl rfl (by kernel_rfl) rfl ?_
      refine WA.no 21 rfl rfl (by kernel_rfl) rfl ?_
      refine WA.no 22 rfl rfl (by kernel_rfl) rfl ?_
      refine WA.no 23 rfl rfl (by kernel_rfl) rfl ?_
      refine WA.no 24 rfl rfl (by kernel_rfl) rfl ?_
      refine WA.no 25 rfl rfl (by kernel_rfl) rfl ?_
      refine WA.no 26 rfl rfl (by kernel_rfl) rfl ?_
      refine WA.no 27 rfl rfl (by kernel_rfl) rfl ?_
      refine WA.no 28 rfl rfl (by kernel_rfl) rfl ?_
      refine WA.no 29 rfl rfl (by kernel_rfl) rfl ?_
      refine WA.no 30 rfl rfl (by kernel_rfl) rfl ?_
      refine WA.no 31 rfl rfl (by kernel_rfl) rfl ?_
      refine WA.no 32 rfl rfl (by kernel_rfl) rfl ?_
      refine WA.no 33 rfl rfl (by kernel_rfl) rfl ?_
      refine WA.no 34 rfl rfl (by kernel_rfl) rfl ?_
      refine WA.no 35 rfl rfl (by kernel_rfl) rfl ?_
      refine WA.no 36 rfl rfl (by kernel_rfl) rfl ?_
      refine WA.no 37 rfl rfl (by kernel_rfl) rfl ?_
      refine WA.no 38 rfl rfl (by kernel_rfl) rfl ?_
      refine WA.no 39 rfl rfl (by kernel_rfl) rfl ?_
      refine WA.takeP 40 rfl (RDP.of fun _ => RD.pickT rfl rfl) rfl (by kernel_rfl) rfl ?_
      refine WA.done (by kernel_rfl) ?_
      refine JE.seqN ?_
      refine J.condT rfl ?_
      refine J.seq ?_
      refine J.reg ?_
      refine WL.rd (RD.assign rfl) rfl rfl ?_
      refine WL.nil ?_
      refine JE.seqN ?_
      refine J.ret ?_
      refine JE.ret rfl (.tmp rfl .nil) (fun w hS => ?_)
      first | exact CS.fin hS rfl | (exfalso; omega) | exact CS.fin hS (by simp_all)
     ·
      refine WA.take 4 rfl (RD.loadA rfl rfl) rfl (by kernel_rfl) rfl ?_
      refine WA.take 5 rfl (RD.loadA rfl rfl) rfl (by kernel_rfl) rfl ?_
      refine WA.one (i := 6) (by kernel_rfl) ?_
      refine WAi.efS rfl (EF.callS (.cons rfl (.cons rfl .nil)) (fun w hS => samePebbles_c _ _ _ _ _ _ _ _ _ _ _ _ _ (by exact RdI.rd hS) (by exact RdI.rd hS) (by exact RdI.rd hS) (by exact RdI.rd hS) (by exact RdI.rd hS) (by exact RdI.rd hS))) rfl rfl (fun _ => by repeat (first | exact subM_refl _ | refine subM_app _ ?_ | refine subM_con _ ?_)) ?_
      rintro ⟨⟩ -
      refine WA.takeP 7 rfl (RDP.of fun _ => RD.notP rfl) rfl (by kernel_rfl) rfl ?_
      refine WA.takeP 8 rfl (RDP.of fun _ => RD.pickF rfl rfl) rfl (by kernel_rfl) rfl ?_
      refine WA.takeP 9 rfl (RDP.of fun _ => RD.move rfl) rfl (by kernel_rfl) rfl ?_
      refine WA.caseP 185 rfl (fun hg185 => ?_) (fun hg185 => ?_)
      ·
       refine WA.no 10 rfl rfl (by kernel_rfl) rfl ?_
       refine WA.no 11 rfl rfl (by kernel_rfl) rfl ?_
       refine WA.no 12 rfl rfl (by kernel_rfl) rfl ?_
       refine WA.no 13 rfl rfl (by kernel_rfl) rfl ?_
       refine WA.no 14 rfl rfl (by kernel_rfl) rfl ?_
       refine WA.no 15 rfl rfl (by kernel_rfl) rfl ?_
       refine WA.no 16 rfl rfl (by kernel_rfl) rfl ?_
       refine WA.no 17 rfl rfl (by kernel_rfl) rfl ?_
       refine WA.no 18 rfl rfl (by kernel_rfl) rfl ?_
       refine WA.no 19 rfl rfl (by kernel_rfl) rfl ?_
       refine WA.no 20 rfl rfl (by kernel_rfl) rfl ?_
       refine WA.no 21 rfl rfl (by kernel_rfl) rfl ?_
       refine WA.no 22 rfl rfl (by kernel_rfl) rfl ?_
       refine WA.no 23 rfl rfl (by kernel_rfl) rfl ?_
       refine WA.no 24 rfl rfl (by kernel_rfl) rfl ?_
       refine WA.no 25 rfl rfl (by kernel_rfl) rfl ?_
       refine WA.no 26 rfl rfl (by kernel_rfl) rfl ?_
       refine WA.no 27 rfl rfl (by kernel_rfl) rfl ?_
       refine WA.no 28 rfl rfl (by kernel_rfl) rfl ?_
       refine WA.no 29 rfl rfl (by kernel_rfl) rfl ?_
       refine WA.no 30 rfl rfl (by kernel_rfl) rfl ?_
       refine WA.no 31 rfl rfl (by kernel_rfl) rfl ?_
       refine WA.no 32 rfl rfl (by kernel_rfl) rfl ?_
       refine WA.no 33 rfl rfl (by kernel_rfl) rfl ?_
       refine WA.no 34 rfl rfl (by kernel_rfl) rfl ?_
       refine WA.no 35 rfl rfl (by kernel_rfl) rfl ?_
       refine WA.no 36 rfl rfl (by kernel_rfl) rfl ?_
       refine WA.no 37 rfl rfl (by kernel_rfl) rfl ?_
       refine WA.no 38 rfl rfl (by kernel_rfl) rfl ?_
       refine WA.no 39 rfl rfl (by kernel_rfl) rfl ?_
       refine WA.takeP 40 rfl (RDP.of fun _ => RD.pickT rfl rfl) rfl (by kernel_rfl) rfl ?_
       refine WA.done (by kernel_rfl) ?_
       refine JE.seqN ?_
       refine J.condT rfl ?_
       refine J.seq ?_
       refine J.reg ?_
       refine WL.rd (RD.assign rfl) rfl rfl ?_
       refine WL.nil ?_
       refine JE.seqN ?_
       refine J.ret ?_
       refine JE.ret rfl (.tmp rfl .nil) (fun w hS => ?_)
       first | exact CS.fin hS rfl | (exfalso; omega) | exact CS.fin hS (by simp_all)
      ·
       refine WA.takeP 10 rfl (RDP.of fun _ => RD.move rfl) rfl (by kernel_rfl) rfl ?_
       refine WA.takeP 11 rfl (RDP.of fun _ => RD.move rfl) rfl (by kernel_rfl) rfl ?_
       refine WA.case 187 rfl (fun hg187 => ?_) (fun hg187 => ?_)
       ·
        obtain ⟨⟨hq1, hq2⟩, hq3, hq4⟩ := gp_facts hg187
        obtain ⟨hj1, hj2, hj3, hj4⟩ := gp_ix hg187
        simp only [gI] at hq4
        refine WA.takeP 12 rfl (RDP.of fun _ => RD.fieldC rfl rfl) rfl (by kernel_rfl) rfl ?_
        refine WA.take 13 rfl (RD.loadC rfl rfl) rfl (by kernel_rfl) rfl ?_
        refine WA.takeP 14 rfl (RDP.of fun _ => RD.move rfl) rfl (by kernel_rfl) rfl ?_
        refine WA.takeP 15 rfl (RDP.idx (j := x149.2.2.2.2.2.2.2.2.1.toNat) (hj := ⟨by omega⟩) rfl rfl (by omega) rfl) rfl (by kernel_rfl) rfl ?_
        refine WA.take 16 rfl (RD.loadE rfl (by omega) rfl) rfl (by kernel_rfl) rfl ?_
        refine WA.takeP 17 rfl (RDP.of fun _ => RD.fieldC rfl rfl) rfl (by kernel_rfl) rfl ?_
        refine WA.take 18 rfl (RD.loadC rfl rfl) rfl (by kernel_rfl) rfl ?_
        refine WA.takeP 19 rfl (RDP.of fun _ => RD.move rfl) rfl (by kernel_rfl) rfl ?_
        refine WA.takeP 20 rfl (RDP.idx (j := x149.2.2.2.2.2.2.2.2.2.1.toNat) (hj := ⟨by omega⟩) rfl rfl (by omega) rfl) rfl (by kernel_rfl) rfl ?_
        refine WA.take 21 rfl (RD.loadE rfl (by omega) rfl) rfl (by kernel_rfl) rfl ?_
        refine WA.takeP 22 rfl (RDP.of fun _ => RD.add rfl rfl (by omega) (by omega)) rfl (by kernel_rfl) rfl ?_
        refine WA.takeP 23 rfl (RDP.of fun _ => RD.move rfl) rfl (by kernel_rfl) rfl ?_
        refine WA.takeP 24 rfl (RDP.of fun _ => RD.lss rfl rfl) rfl (by kernel_rfl) rfl ?_
        refine WA.takeP 25 rfl (RDP.of fun _ => RD.move rfl) rfl (by kernel_rfl) rfl ?_
        refine WA.caseP 201 rfl (fun hg201 => ?_) (fun hg201 => ?_)
        ·
         refine WA.no 26 rfl rfl (by kernel_rfl) rfl ?_
         refine WA.no 27 rfl rfl (by kernel_rfl) rfl ?_
         refine WA.no 28 rfl rfl (by kernel_rfl) rfl ?_
         refine WA.no 29 rfl rfl (by kernel_rfl) rfl ?_
         refine WA.no 30 rfl rfl (by kernel_rfl) rfl ?_
         refine WA.takeP 31 rfl (RDP.of fun _ => RD.pickT rfl rfl) rfl (by kernel_rfl) rfl ?_
         refine WA.takeP 32 rfl (RDP.of fun _ => RD.move rfl) rfl (by kernel_rfl) rfl ?_
         refine WA.no 33 rfl rfl (by kernel_rfl) rfl ?_
         refine WA.no 34 rfl rfl (by kernel_rfl) rfl ?_
         refine WA.no 35 rfl rfl (by kernel_rfl) rfl ?_
         refine WA.no 36 rfl rfl (by kernel_rfl) rfl ?_
         refine WA.no 37 rfl rfl (by kernel_rfl) rfl ?_
         refine WA.takeP 38 rfl (RDP.of fun _ => RD.pickT rfl rfl) rfl (by kernel_rfl) rfl ?_
         refine WA.takeP 39 rfl (RDP.of fun _ => RD.pickT rfl rfl) rfl (by kernel_rfl) rfl ?_
         refine WA.takeP 40 rfl (RDP.of fun _ => RD.pickF rfl rfl) rfl (by kernel_rfl) rfl ?_
         refine WA.done (by kernel_rfl) ?_
         refine JE.seqN ?_
         refine J.condT rfl ?_
         refine J.seq ?_
         refine J.reg ?_
         refine WL.rd (RD.assign rfl) rfl rfl ?_
         refine WL.nil ?_
         refine JE.seqN ?_
         refine J.ret ?_
         refine JE.ret rfl (.tmp rfl .nil) (fun w hS => ?_)
         first | exact CS.fin hS rfl | (exfalso; omega) | exact CS.fin hS (by simp_all [mkRes])
        ·
         refine WA.take 26 rfl (RD.loadA rfl rfl) rfl (by kernel_rfl) rfl ?_
         refine WA.takeP 27 rfl (RDP.of fun _ => RD.move rfl) rfl (by kernel_rfl) rfl ?_
         refine WA.take 28 rfl (RD.loadA rfl rfl) rfl (by kernel_rfl) rfl ?_
         refine WA.one (i := 29) (by kernel_rfl) ?_
         refine WAi.efS rfl (EF.callS (.cons rfl (.cons rfl (.cons rfl .nil))) (fun w hS => iIsPebbles_c _ _ _ _ _ _ _ _ _ _ _ (by exact RdI.rd hS) (by exact RdI.rd hS) (by exact RdI.rd hS) (by exact RdI.rd hS) (by assumption))) rfl rfl (fun _ => by repeat (first | exact subM_refl _ | refine subM_app _ ?_ | refine subM_con _ ?_)) ?_
         rintro ⟨⟩ -
         refine WA.takeP 30 rfl (RDP.of fun _ => RD.notP rfl) rfl (by kernel_rfl) rfl ?_
         refine WA.takeP 31 rfl (RDP.of fun _ => RD.pickF rfl rfl) rfl (by kernel_rfl) rfl ?_
         refine WA.takeP 32 rfl (RDP.of fun _ => RD.move rfl) rfl (by kernel_rfl) rfl ?_
         refine WA.caseP 208 rfl (fun hg208 => ?_) (fun hg208 => ?_)
         ·
          refine WA.no 33 rfl rfl (by kernel_rfl) rfl ?_
          refine WA.no 34 rfl rfl (by kernel_rfl) rfl ?_
          refine WA.no 35 rfl rfl (by kernel_rfl) rfl ?_
          refine WA.no 36 rfl rfl (by kernel_rfl) rfl ?_
          refine WA.no 37 rfl rfl (by kernel_rfl) rfl ?_
          refine WA.takeP 38 rfl (RDP.of fun _ => RD.pickT rfl rfl) rfl (by kernel_rfl) rfl ?_
          refine WA.takeP 39 rfl (RDP.of fun _ => RD.pickT rfl rfl) rfl (by kernel_rfl) rfl ?_
          refine WA.takeP 40 rfl (RDP.of fun _ => RD.pickF rfl rfl) rfl (by kernel_rfl) rfl ?_
          refine WA.done (by kernel_rfl) ?_
          refine JE.seqN ?_
          refine J.condT rfl ?_
          refine J.seq ?_
          refine J.reg ?_
          refine WL.rd (RD.assign rfl) rfl rfl ?_
          refine WL.nil ?_
          refine JE.seqN ?_
          refine J.ret ?_
          refine JE.ret rfl (.tmp rfl .nil) (fun w hS => ?_)
          first | exact CS.fin hS rfl | (exfalso; omega) | exact CS.fin hS (by simp_all)
         ·
          refine WA.take 33 rfl (RD.loadA rfl rfl) rfl (by kernel_rfl) rfl ?_
          refine WA.take 35 rfl (RD.loadA rfl rfl) rfl (by kernel_rfl) rfl ?_
          refine WA.one (i := 34) (by kernel_rfl) ?_
          refine WAi.efS rfl (EF.callS (.cons rfl .nil) (fun w hS => sFreePebbles_c _ _ _ _ _ _ _ (by exact RdI.rd hS) (by exact RdI.rd hS) (by exact RdI.rd hS))) rfl rfl (fun _ => by repeat (first | exact subM_refl _ | refine subM_app _ ?_ | refine subM_con _ ?_)) ?_
          rintro ⟨⟩ -
          refine WA.one (i := 36) (by kernel_rfl) ?_
          refine WAi.efS rfl (EF.callS (.cons rfl .nil) (fun w hS => sFreePebbles_c _ _ _ _ _ _ _ (by exact RdI.rd hS) (by exact RdI.rd hS) (by exact RdI.rd hS))) rfl rfl (fun _ => by repeat (first | exact subM_refl _ | refine subM_app _ ?_ | refine subM_con _ ?_)) ?_
          rintro ⟨⟩ -
          refine WA.takeP 37 rfl (RDP.of fun _ => RD.neq rfl rfl) rfl (by kernel_rfl) rfl ?_
          refine WA.takeP 38 rfl (RDP.of fun _ => RD.pickF rfl rfl) rfl (by kernel_rfl) rfl ?_
          refine WA.takeP 39 rfl (RDP.of fun _ => RD.pickT rfl rfl) rfl (by kernel_rfl) rfl ?_
          refine WA.takeP 40 rfl (RDP.of fun _ => RD.pickF rfl rfl) rfl (by kernel_rfl) rfl ?_
          refine WA.done (by kernel_rfl) ?_
          refine JE.seqN ?_
          refine J.condP rfl (fun hc216 => ?_) (fun hc216 => ?_)
          ·
           refine J.seq ?_
           refine J.reg ?_
           refine WL.rd (RD.assign rfl) rfl rfl ?_
           refine WL.nil ?_
           refine JE.seqN ?_
           refine J.ret ?_
           refine JE.ret rfl (.tmp rfl .nil) (fun w hS => ?_)
           first | exact CS.fin hS rfl | (exfalso; omega) | exact CS.fin hS (by simp_all [mkRes])
          ·
           refine J.skip ?_
           refine JE.cutN ⟨?_, rfl, rfl⟩ ?_ ?_
           · trivial
           · exact (Sub.consE rfl (by first | rfl | (congr 1; omega) | (simp; done)) .nil)
           · exact (SubM.ro rfl (by first | rfl | (simp [iv, bv, yv, tv, sv]; done)) .nil)
       ·
        refine WA.no 12 rfl rfl (by kernel_rfl) rfl ?_
        refine WA.no 13 rfl rfl (by kernel_rfl) rfl ?_
        refine WA.no 14 rfl rfl (by kernel_rfl) rfl ?_
        refine WA.no 15 rfl rfl (by kernel_rfl) rfl ?_
        refine WA.no 16 rfl rfl (by kernel_rfl) rfl ?_
        refine WA.no 17 rfl rfl (by kernel_rfl) rfl ?_
        refine WA.no 18 rfl rfl (by kernel_rfl) rfl ?_
        refine WA.no 19 rfl rfl (by kernel_rfl) rfl ?_
        refine WA.no 20 rfl rfl (by kernel_rfl) rfl ?_
        refine WA.no 21 rfl rfl (by kernel_rfl) rfl ?_
        refine WA.no 22 rfl rfl (by kernel_rfl) rfl ?_
        refine WA.no 23 rfl rfl (by kernel_rfl) rfl ?_
        refine WA.no 24 rfl rfl (by kernel_rfl) rfl ?_
        refine WA.no 25 rfl rfl (by kernel_rfl) rfl ?_
        refine WA.no 26 rfl rfl (by kernel_rfl) rfl ?_
        refine WA.no 27 rfl rfl (by kernel_rfl) rfl ?_
        refine WA.no 28 rfl rfl (by kernel_rfl) rfl ?_
        refine WA.no 29 rfl rfl (by kernel_rfl) rfl ?_
        refine WA.no 30 rfl rfl (by kernel_rfl) rfl ?_
        refine WA.no 31 rfl rfl (by kernel_rfl) rfl ?_
        refine WA.no 32 rfl rfl (by kernel_rfl) rfl ?_
        refine WA.no 33 rfl rfl (by kernel_rfl) rfl ?_
        refine WA.no 34 rfl rfl (by kernel_rfl) rfl ?_
        refine WA.no 35 rfl rfl (by kernel_rfl) rfl ?_
        refine WA.no 36 rfl rfl (by kernel_rfl) rfl ?_
        refine WA.no 37 rfl rfl (by kernel_rfl) rfl ?_
        refine WA.no 38 rfl rfl (by kernel_rfl) rfl ?_
        refine WA.takeP 39 rfl (RDP.of fun _ => RD.pickF rfl rfl) rfl (by kernel_rfl) rfl ?_
        refine WA.takeP 40 rfl (RDP.of fun _ => RD.pickF rfl rfl) rfl (by kernel_rfl) rfl ?_
        refine WA.done (by kernel_rfl) ?_
        refine JE.seqN ?_
        refine J.condF rfl ?_
        refine J.skip ?_
        refine JE.cutN ⟨?_, rfl, rfl⟩ ?_ ?_
        · trivial
        · exact (Sub.consE rfl (by first | rfl | (congr 1; omega) | (simp; done)) .nil)
        · exact (SubM.ro rfl (by first | rfl | (simp [iv, bv, yv, tv, sv]; done)) .nil)
    ·
     rintro _ _ ⟨-, rfl, rfl⟩
     refine J.seq ?_
     refine J.reg ?_
     refine WL.rd (RD.move rfl) rfl rfl ?_
     refine WL.efS (EF.callN (.cons rfl .nil) (fun w hS => DrawPlaceBar_c vb xb _ (by exact RdI.rd hS) (by omega))) rfl rfl ?_
     rintro x219 hx219
     have hbf219 := hx219.2.1.bf (by decide)
     have hpn219 := hx219.2.1.1
     have hl219 : (-9223372036854775808 ≤ x219.2.2.2.2.1 ∧ x219.2.2.2.2.1 ≤ 9223372036854775807) := by omega
     refine WL.rd (RD.move rfl) rfl rfl ?_
     refine WL.rd (RD.extract rfl rfl) rfl rfl ?_
     refine WL.rd (RD.extract rfl rfl) rfl rfl ?_
     refine WL.rd (RD.extract rfl rfl) rfl rfl ?_
     refine WL.rd (RD.extract rfl rfl) rfl rfl ?_
     refine WL.rd (RD.extract rfl rfl) rfl rfl ?_
     refine WL.efS (EF.allocA) rfl rfl ?_
     intro b22 _
     refine WL.efS (EF.allocA) rfl rfl ?_
     intro b25 _
     refine WL.efN (EF.storeA rfl rfl rfl rfl) rfl ?_
     rintro ⟨⟩ -
     refine WL.rd (RD.assign rfl) rfl rfl ?_
     refine WL.rd (RD.assign rfl) rfl rfl ?_
     refine WL.efN (EF.storeA rfl rfl rfl rfl) rfl ?_
     rintro ⟨⟩ -
     refine WL.rd (RD.assign rfl) rfl rfl ?_
     refine WL.nil ?_
     refine JE.seqN ?_
     refine J.seq ?_
     refine J.reg ?_
     refine WL.rd (RD.loadA rfl rfl) rfl rfl ?_
     refine WL.rd (RD.move rfl) rfl rfl ?_
     refine WL.rd (RD.move rfl) rfl rfl ?_
     refine WL.rd (RD.loadA rfl rfl) rfl rfl ?_
     refine WL.rd (RD.move rfl) rfl rfl ?_
     refine WL.efS (EF.callN (.cons rfl (.cons rfl (.cons rfl (.cons rfl (.cons rfl .nil))))) (fun w hS => iPlaceBar_c _ _ _ _ _ _ _ _ _ _ _ _ _ (by exact RdI.rd hS) (by exact RdI.rd hS) (by exact RdI.rd hS) (by exact RdI.rd hS) (by assumption) (by omega) (by omega) (by omega) (by omega) (by first | assumption | omega))) rfl rfl ?_
     rintro ⟨f231, t231, p231⟩ -
     refine WL.rd (RD.move rfl) rfl rfl ?_
     refine WL.rd (RD.extract rfl rfl) rfl rfl ?_
     refine WL.rd (RD.extract rfl rfl) rfl rfl ?_
     refine WL.efS (EF.allocA) rfl rfl ?_
     intro b27 _
     refine WL.efN (EF.storeA rfl rfl rfl rfl) rfl ?_
     rintro ⟨⟩ -
     refine WL.rd (RD.assign rfl) rfl rfl ?_
     refine WL.nil ?_
     refine JE.seqN ?_
     refine J.seq ?_
     refine J.reg ?_
     refine WL.rd (RD.loadA rfl rfl) rfl rfl ?_
     refine WL.rd (RD.move rfl) rfl rfl ?_
     refine WL.rd (RD.move rfl) rfl rfl ?_
     refine WL.rd (RD.loadA rfl rfl) rfl rfl ?_
     refine WL.rd (RD.move rfl) rfl rfl ?_
     refine WL.efS (EF.callN (.cons rfl (.cons rfl (.cons rfl (.cons rfl (.cons rfl .nil))))) (fun w hS => sPlaceBar_c _ _ _ _ _ _ _ _ _ _ _ _ _ (by exact RdI.rd hS) (by exact RdI.rd hS) (by exact RdI.rd hS) (by exact RdI.rd hS) (by assumption) (by omega) (by omega) (by omega) (by omega) (by first | assumption | omega))) rfl rfl ?_
     rintro ⟨f240, t240, p240⟩ -
     refine WL.rd (RD.move rfl) rfl rfl ?_
     refine WL.rd (RD.extract rfl rfl) rfl rfl ?_
     refine WL.rd (RD.extract rfl rfl) rfl rfl ?_
     refine WL.efS (EF.allocA) rfl rfl ?_
     intro b29 _
     refine WL.efN (EF.storeA rfl rfl rfl rfl) rfl ?_
     rintro ⟨⟩ -
     refine WL.rd (RD.assign rfl) rfl rfl ?_
     refine WL.nil ?_
     refine JE.seqN ?_
     refine J.seq ?_
     refine J.reg ?_
     refine WL.rd (RD.move rfl) rfl rfl ?_
     refine WL.efS (EF.callN (.cons rfl .nil) (fun w hS => DrawNewPebbles_c vb xb _ (by exact RdI.rd hS) (by omega))) rfl rfl ?_
     rintro x245 hx245
     have hnl := newP_len x245.1 x245.2.2.2 x245.2.1
     refine WL.rd (RD.move rfl) rfl rfl ?_
     refine WL.rd (RD.extract rfl rfl) rfl rfl ?_
     refine WL.rd (RD.extract rfl rfl) rfl rfl ?_
     refine WL.efS (EF.allocA) rfl rfl ?_
     intro b31 _
     refine WL.efN (EF.storeA rfl rfl rfl rfl) rfl ?_
     rintro ⟨⟩ -
     refine WL.rd (RD.assign rfl) rfl rfl ?_
     refine WL.nil ?_
     refine JE.seqN ?_
     refine J.seq ?_
     refine J.reg ?_
     refine WL.rd (RD.loadA rfl rfl) rfl rfl ?_
     refine WL.rd (RD.move rfl) rfl rfl ?_
     refine WL.efS (EF.callN (.cons rfl (.cons rfl .nil)) (fun w hS => iNewPebbles_c _ _ _ _ _ (by exact RdI.rd hS))) rfl rfl ?_
     rintro ⟨f251, t251, p251⟩ -
     refine WL.rd (RD.move rfl) rfl rfl ?_
     refine WL.rd (RD.extract rfl rfl) rfl rfl ?_
     refine WL.rd (RD.extract rfl rfl) rfl rfl ?_
     refine WL.efS (EF.allocA) rfl rfl ?_
     intro b33 _
     refine WL.efN (EF.storeA rfl rfl rfl rfl) rfl ?_
     rintro ⟨⟩ -
     refine WL.rd (RD.assign rfl) rfl rfl ?_
     refine WL.nil ?_
     refine JE.seqN ?_
     refine J.seq ?_
     refine J.reg ?_
     refine WL.rd (RD.loadA rfl rfl) rfl rfl ?_
     refine WL.rd (RD.move rfl) rfl rfl ?_
     refine WL.efS (EF.callN (.cons rfl (.cons rfl .nil)) (fun w hS => sNewPebbles_c _ _ _ _ _ (by exact RdI.rd hS))) rfl rfl ?_
     rintro ⟨f257, t257, p257⟩ -
     refine WL.rd (RD.move rfl) rfl rfl ?_
     refine WL.rd (RD.extract rfl rfl) rfl rfl ?_
     refine WL.rd (RD.extract rfl rfl) rfl rfl ?_
     refine WL.efS (EF.allocA) rfl rfl ?_
     intro b35 _
     refine WL.efN (EF.storeA rfl rfl rfl rfl) rfl ?_
     rintro ⟨⟩ -
     refine WL.rd (RD.assign rfl) rfl rfl ?_
     refine WL.nil ?_
     refine JE.seqN ?_
     refine J.seq ?_
     refine J.reg ?_
     refine WL.rd (RD.move rfl) rfl rfl ?_
     refine WL.efS (EF.callN (.cons rfl .nil) (fun w hS => DrawIsPebbles_c vb xb _ (by exact RdI.rd hS) (by omega))) rfl rfl ?_
     rintro x262 hx262
     have hbf262 := hx262.2.bf (by decide)
     have hpn262 := hx262.2.1
     refine WL.rd (RD.move rfl) rfl rfl ?_
     refine WL.rd (RD.extract rfl rfl) rfl rfl ?_
     refine WL.rd (RD.extract rfl rfl) rfl rfl ?_
     refine WL.rd (RD.extract rfl rfl) rfl rfl ?_
     refine WL.efS (EF.allocA) rfl rfl ?_
     intro b37 _
     refine WL.efS (EF.allocA) rfl rfl ?_
     intro b39 _
     refine WL.efN (EF.storeA rfl rfl rfl rfl) rfl ?_
     rintro ⟨⟩ -
     refine WL.rd (RD.assign rfl) rfl rfl ?_
     refine WL.efN (EF.storeA rfl rfl rfl rfl) rfl ?_
     rintro ⟨⟩ -
     refine WL.nil ?_
     refine JE.seqN ?_
     refine J.seq ?_
     refine J.anyAll [] ?_
     refine WA.takeP 0 rfl (RDP.of fun _ => RD.move rfl) rfl (by kernel_rfl) rfl ?_
     refine WA.takeP 1 rfl (RDP.of fun _ => RD.move rfl) rfl (by kernel_rfl) rfl ?_
     refine WA.takeP 2 rfl (RDP.of fun _ => RD.eqlB rfl rfl) rfl (by kernel_rfl) rfl ?_
     refine WA.takeP 3 rfl (RDP.of fun _ => RD.move rfl) rfl (by kernel_rfl) rfl ?_
     refine WA.case 269 rfl (fun hg269 => ?_) (fun hg269 => ?_)
     ·
      refine WA.take 4 rfl (RD.loadA rfl rfl) rfl (by kernel_rfl) rfl ?_
      refine WA.take 5 rfl (RD.loadA rfl rfl) rfl (by kernel_rfl) rfl ?_
      refine WA.one (i := 6) (by kernel_rfl) ?_
      refine WAi.efS rfl (EF.callS (.cons rfl (.cons rfl .nil)) (fun w hS => samePebbles_c _ _ _ _ _ _ _ _ _ _ _ _ _ (by exact RdI.rd hS) (by exact RdI.rd hS) (by exact RdI.rd hS) (by exact RdI.rd hS) (by exact RdI.rd hS) (by exact RdI.rd hS))) rfl rfl (fun _ => by repeat (first | exact subM_refl _ | refine subM_app _ ?_ | refine subM_con _ ?_)) ?_
      rintro ⟨⟩ -
      refine WA.takeP 7 rfl (RDP.of fun _ => RD.pickT rfl rfl) rfl (by kernel_rfl) rfl ?_
      refine WA.takeP 8 rfl (RDP.of fun _ => RD.move rfl) rfl (by kernel_rfl) rfl ?_
      refine WA.caseP 274 rfl (fun hg274 => ?_) (fun hg274 => ?_)
      ·
       refine WA.takeP 9 rfl (RDP.of fun _ => RD.move rfl) rfl (by kernel_rfl) rfl ?_
       refine WA.takeP 10 rfl (RDP.of fun _ => RD.move rfl) rfl (by kernel_rfl) rfl ?_
       refine WA.takeP 11 rfl (RDP.of fun _ => RD.eqlB rfl rfl) rfl (by kernel_rfl) rfl ?_
       refine WA.takeP 12 rfl (RDP.of fun _ => RD.pickT rfl rfl) rfl (by kernel_rfl) rfl ?_
       refine WA.takeP 13 rfl (RDP.of fun _ => RD.move rfl) rfl (by kernel_rfl) rfl ?_
       refine WA.case 279 rfl (fun hg279 => ?_) (fun hg279 => ?_)
       ·
        refine WA.take 14 rfl (RD.loadA rfl rfl) rfl (by kernel_rfl) rfl ?_
        refine WA.take 15 rfl (RD.loadA rfl rfl) rfl (by kernel_rfl) rfl ?_
        refine WA.one (i := 16) (by kernel_rfl) ?_
        refine WAi.efS rfl (EF.callS (.cons rfl (.cons rfl .nil)) (fun w hS => samePebbles_c _ _ _ _ _ _ _ _ _ _ _ _ _ (by exact RdI.rd hS) (by exact RdI.rd hS) (by exact RdI.rd hS) (by exact RdI.rd hS) (by exact RdI.rd hS) (by exact RdI.rd hS))) rfl rfl (fun _ => by repeat (first | exact subM_refl _ | refine subM_app _ ?_ | refine subM_con _ ?_)) ?_
        rintro ⟨⟩ -
        refine WA.takeP 17 rfl (RDP.of fun _ => RD.pickT rfl rfl) rfl (by kernel_rfl) rfl ?_
        refine WA.takeP 18 rfl (RDP.of fun _ => RD.move rfl) rfl (by kernel_rfl) rfl ?_
        refine WA.caseP 284 rfl (fun hg284 => ?_) (fun hg284 => ?_)
        ·
         refine WA.take 19 rfl (RD.loadA rfl rfl) rfl (by kernel_rfl) rfl ?_
         refine WA.takeP 20 rfl (RDP.of fun _ => RD.move rfl) rfl (by kernel_rfl) rfl ?_
         refine WA.take 21 rfl (RD.loadA rfl rfl) rfl (by kernel_rfl) rfl ?_
         refine WA.take 23 rfl (RD.loadA rfl rfl) rfl (by kernel_rfl) rfl ?_
         refine WA.takeP 24 rfl (RDP.of fun _ => RD.move rfl) rfl (by kernel_rfl) rfl ?_
         refine WA.take 25 rfl (RD.loadA rfl rfl) rfl (by kernel_rfl) rfl ?_
         refine WA.one (i := 22) (by kernel_rfl) ?_
         refine WAi.efS rfl (EF.callS (.cons rfl (.cons rfl (.cons rfl .nil))) (fun w hS => iIsPebbles_c _ _ _ _ _ _ _ _ _ _ _ (by exact RdI.rd hS) (by exact RdI.rd hS) (by exact RdI.rd hS) (by exact RdI.rd hS) (by assumption))) rfl rfl (fun _ => by repeat (first | exact subM_refl _ | refine subM_app _ ?_ | refine subM_con _ ?_)) ?_
         rintro ⟨⟩ -
         refine WA.one (i := 26) (by kernel_rfl) ?_
         refine WAi.efS rfl (EF.callS (.cons rfl (.cons rfl (.cons rfl .nil))) (fun w hS => sIsPebbles_c _ _ _ _ _ _ _ _ _ _ _ (by exact RdI.rd hS) (by exact RdI.rd hS) (by exact RdI.rd hS) (by exact RdI.rd hS) (by assumption))) rfl rfl (fun _ => by repeat (first | exact subM_refl _ | refine subM_app _ ?_ | refine subM_con _ ?_)) ?_
         rintro ⟨⟩ -
         refine WA.takeP 27 rfl (RDP.of fun _ => RD.eqlB rfl rfl) rfl (by kernel_rfl) rfl ?_
         refine WA.takeP 28 rfl (RDP.of fun _ => RD.pickT rfl rfl) rfl (by kernel_rfl) rfl ?_
         refine WA.takeP 29 rfl (RDP.of fun _ => RD.move rfl) rfl (by kernel_rfl) rfl ?_
         refine WA.case 295 rfl (fun hg295 => ?_) (fun hg295 => ?_)
         ·
          refine WA.take 30 rfl (RD.loadA rfl rfl) rfl (by kernel_rfl) rfl ?_
          refine WA.take 32 rfl (RD.loadA rfl rfl) rfl (by kernel_rfl) rfl ?_
          refine WA.one (i := 31) (by kernel_rfl) ?_
          refine WAi.efS rfl (EF.callS (.cons rfl .nil) (fun w hS => iFreePebbles_c _ _ _ _ _ _ _ (by exact RdI.rd hS) (by exact RdI.rd hS) (by exact RdI.rd hS))) rfl rfl (fun _ => by repeat (first | exact subM_refl _ | refine subM_app _ ?_ | refine subM_con _ ?_)) ?_
          rintro ⟨⟩ -
          refine WA.one (i := 33) (by kernel_rfl) ?_
          refine WAi.efS rfl (EF.callS (.cons rfl .nil) (fun w hS => sFreePebbles_c _ _ _ _ _ _ _ (by exact RdI.rd hS) (by exact RdI.rd hS) (by exact RdI.rd hS))) rfl rfl (fun _ => by repeat (first | exact subM_refl _ | refine subM_app _ ?_ | refine subM_con _ ?_)) ?_
          rintro ⟨⟩ -
          refine WA.takeP 34 rfl (RDP.of fun _ => RD.eql rfl rfl) rfl (by kernel_rfl) rfl ?_
          refine WA.takeP 35 rfl (RDP.of fun _ => RD.pickT rfl rfl) rfl (by kernel_rfl) rfl ?_
          refine WA.takeP 36 rfl (RDP.of fun _ => RD.assign rfl) rfl (by kernel_rfl) rfl ?_
          refine WA.done (by kernel_rfl) ?_
          refine JE.seqN ?_
          refine J.ret ?_
          refine JE.ret rfl (.tmp rfl .nil) (fun w hS => ?_)
          first | exact CS.fin hS rfl | (exfalso; omega) | exact CS.fin hS (by simp_all [mkRes])
         ·
          refine WA.no 30 rfl rfl (by kernel_rfl) rfl ?_
          refine WA.no 31 rfl rfl (by kernel_rfl) rfl ?_
          refine WA.no 32 rfl rfl (by kernel_rfl) rfl ?_
          refine WA.no 33 rfl rfl (by kernel_rfl) rfl ?_
          refine WA.no 34 rfl rfl (by kernel_rfl) rfl ?_
          refine WA.takeP 35 rfl (RDP.of fun _ => RD.pickF rfl rfl) rfl (by kernel_rfl) rfl ?_
          refine WA.takeP 36 rfl (RDP.of fun _ => RD.assign rfl) rfl (by kernel_rfl) rfl ?_
          refine WA.done (by kernel_rfl) ?_
          refine JE.seqN ?_
          refine J.ret ?_
          refine JE.ret rfl (.tmp rfl .nil) (fun w hS => ?_)
          first | exact CS.fin hS rfl | (exfalso; omega) | exact CS.fin hS (by simp_all)
        ·
         refine WA.no 19 rfl rfl (by kernel_rfl) rfl ?_
         refine WA.no 20 rfl rfl (by kernel_rfl) rfl ?_
         refine WA.no 21 rfl rfl (by kernel_rfl) rfl ?_
         refine WA.no 22 rfl rfl (by kernel_rfl) rfl ?_
         refine WA.no 23 rfl rfl (by kernel_rfl) rfl ?_
         refine WA.no 24 rfl rfl (by kernel_rfl) rfl ?_
         refine WA.no 25 rfl rfl (by kernel_rfl) rfl ?_
         refine WA.no 26 rfl rfl (by kernel_rfl) rfl ?_
         refine WA.no 27 rfl rfl (by kernel_rfl) rfl ?_
         refine WA.takeP 28 rfl (RDP.of fun _ => RD.pickF rfl rfl) rfl (by kernel_rfl) rfl ?_
         refine WA.takeP 29 rfl (RDP.of fun _ => RD.move rfl) rfl (by kernel_rfl) rfl ?_
         refine WA.no 30 rfl rfl (by kernel_rfl) rfl ?_
         refine WA.no 31 rfl rfl (by kernel_rfl) rfl ?_
         refine WA.no 32 rfl rfl (by kernel_rfl) rfl ?_
         refine WA.no 33 rfl rfl (by kernel_rfl) rfl ?_
         refine WA.no 34 rfl rfl (by kernel_rfl) rfl ?_
         refine WA.takeP 35 rfl (RDP.of fun _ => RD.pickF rfl rfl) rfl (by kernel_rfl) rfl ?_
         refine WA.takeP 36 rfl (RDP.of fun _ => RD.assign rfl) rfl (by kernel_rfl) rfl ?_
         refine WA.done (by kernel_rfl) ?_
         refine JE.seqN ?_
         refine J.ret ?_
         refine JE.ret rfl (.tmp rfl .nil) (fun w hS => ?_)
         first | exact CS.fin hS rfl | (exfalso; omega) | exact CS.fin hS (by simp_all)
       ·
        refine WA.no 14 rfl rfl (by kernel_rfl) rfl ?_
        refine WA.no 15 rfl rfl (by kernel_rfl) rfl ?_
        refine WA.no 16 rfl rfl (by kernel_rfl) rfl ?_
        refine WA.takeP 17 rfl (RDP.of fun _ => RD.pickF rfl rfl) rfl (by kernel_rfl) rfl ?_
        refine WA.takeP 18 rfl (RDP.of fun _ => RD.move rfl) rfl (by kernel_rfl) rfl ?_
        refine WA.no 19 rfl rfl (by kernel_rfl) rfl ?_
        refine WA.no 20 rfl rfl (by kernel_rfl) rfl ?_
        refine WA.no 21 rfl rfl (by kernel_rfl) rfl ?_
        refine WA.no 22 rfl rfl (by kernel_rfl) rfl ?_
        refine WA.no 23 rfl rfl (by kernel_rfl) rfl ?_
        refine WA.no 24 rfl rfl (by kernel_rfl) rfl ?_
        refine WA.no 25 rfl rfl (by kernel_rfl) rfl ?_
        refine WA.no 26 rfl rfl (by kernel_rfl) rfl ?_
        refine WA.no 27 rfl rfl (by kernel_rfl) rfl ?_
        refine WA.takeP 28 rfl (RDP.of fun _ => RD.pickF rfl rfl) rfl (by kernel_rfl) rfl ?_
        refine WA.takeP 29 rfl (RDP.of fun _ => RD.move rfl) rfl (by kernel_rfl) rfl ?_
        refine WA.no 30 rfl rfl (by kernel_rfl) rfl ?_
        refine WA.no 31 rfl rfl (by kernel_rfl) rfl ?_
        refine WA.no 32 rfl rfl (by kernel_rfl) rfl ?_
        refine WA.no 33 rfl rfl (by kernel_rfl) rfl ?_
        refine WA.no 34 rfl rfl (by kernel_rfl) rfl ?_
        refine WA.takeP 35 rfl (RDP.of fun _ => RD.pickF rfl rfl) rfl (by kernel_rfl) rfl ?_
        refine WA.takeP 36 rfl (RDP.of fun _ => RD.assign rfl) rfl (by kernel_rfl) rfl ?_
        refine WA.done (by kernel_rfl) ?_
        refine JE.seqN ?_
        refine J.ret ?_
        refine JE.ret rfl (.tmp rfl .nil) (fun w hS => ?_)
        first | exact CS.fin hS rfl | (exfalso; omega) | exact CS.fin hS (by simp_all)
      ·
       refine WA.no 9 rfl rfl (by kernel_rfl) rfl ?_
       refine WA.no 10 rfl rfl (by kernel_rfl) rfl ?_
       refine WA.no 11 rfl rfl (by kernel_rfl) rfl ?_
       refine WA.takeP 12 rfl (RDP.of fun _ => RD.pickF rfl rfl) rfl (by kernel_rfl) rfl ?_
       refine WA.takeP 13 rfl (RDP.of fun _ => RD.move rfl) rfl (by kernel_rfl) rfl ?_
       refine WA.no 14 rfl rfl (by kernel_rfl) rfl ?_
       refine WA.no 15 rfl rfl (by kernel_rfl) rfl ?_
       refine WA.no 16 rfl rfl (by kernel_rfl) rfl ?_
       refine WA.takeP 17 rfl (RDP.of fun _ => RD.pickF rfl rfl) rfl (by kernel_rfl) rfl ?_
       refine WA.takeP 18 rfl (RDP.of fun _ => RD.move rfl) rfl (by kernel_rfl) rfl ?_
       refine WA.no 19 rfl rfl (by kernel_rfl) rfl ?_
       refine WA.no 20 rfl rfl (by kernel_rfl) rfl ?_
       refine WA.no 21 rfl rfl (by kernel_rfl) rfl ?_
       refine WA.no 22 rfl rfl (by kernel_rfl) rfl ?_
       refine WA.no 23 rfl rfl (by kernel_rfl) rfl ?_
       refine WA.no 24 rfl rfl (by kernel_rfl) rfl ?_
       refine WA.no 25 rfl rfl (by kernel_rfl) rfl ?_
       refine WA.no 26 rfl rfl (by kernel_rfl) rfl ?_
       refine WA.no 27 rfl rfl (by kernel_rfl) rfl ?_
       refine WA.takeP 28 rfl (RDP.of fun _ => RD.pickF rfl rfl) rfl (by kernel_rfl) rfl ?_
       refine WA.takeP 29 rfl (RDP.of fun _ => RD.move rfl) rfl (by kernel_rfl) rfl ?_
       refine WA.no 30 rfl rfl (by kernel_rfl) rfl ?_
       refine WA.no 31 rfl rfl (by kernel_rfl) rfl ?_
       refine WA.no 32 rfl rfl (by kernel_rfl) rfl ?_
       refine WA.no 33 rfl rfl (by kernel_rfl) rfl ?_
       refine WA.no 34 rfl rfl (by kernel_rfl) rfl ?_
       refine WA.takeP 35 rfl (RDP.of fun _ => RD.pickF rfl rfl) rfl (by kernel_rfl) rfl ?_
       refine WA.takeP 36 rfl (RDP.of fun _ => RD.assign rfl) rfl (by kernel_rfl) rfl ?_
       refine WA.done (by kernel_rfl) ?_
       refine JE.seqN ?_
       refine J.ret ?_
       refine JE.ret rfl (.tmp rfl .nil) (fun w hS => ?_)
       first | exact CS.fin hS rfl | (exfalso; omega) | exact CS.fin hS (by simp_all)
     ·
      refine WA.no 4 rfl rfl (by kernel_rfl) rfl ?_
      refine WA.no 5 rfl rfl (by kernel_rfl) rfl ?_
      refine WA.no 6 rfl rfl (by kernel_rfl) rfl ?_
      refine WA.takeP 7 rfl (RDP.of fun _ => RD.pickF rfl rfl) rfl (by kernel_rfl) rfl ?_
      refine WA.takeP 8 rfl (RDP.of fun _ => RD.move rfl) rfl (by kernel_rfl) rfl ?_
      refine WA.no 9 rfl rfl (by kernel_rfl) rfl ?_
      refine WA.no 10 rfl rfl (by kernel_rfl) rfl ?_
      refine WA.no 11 rfl rfl (by kernel_rfl) rfl ?_
      refine WA.takeP 12 rfl (RDP.of fun _ => RD.pickF rfl rfl) rfl (by kernel_rfl) rfl ?_
      refine WA.takeP 13 rfl (RDP.of fun _ => RD.move rfl) rfl (by kernel_rfl) rfl ?_
      refine WA.no 14 rfl rfl (by kernel_rfl) rfl ?_
      refine WA.no 15 rfl rfl (by kernel_rfl) rfl ?_
      refine WA.no 16 rfl rfl (by kernel_rfl) rfl ?_
      refine WA.takeP 17 rfl (RDP.of fun _ => RD.pickF rfl rfl) rfl (by kernel_rfl) rfl ?_
      refine WA.takeP 18 rfl (RDP.of fun _ => RD.move rfl) rfl (by kernel_rfl) rfl ?_
      refine WA.no 19 rfl rfl (by kernel_rfl) rfl ?_
      refine WA.no 20 rfl rfl (by kernel_rfl) rfl ?_
      refine WA.no 21 rfl rfl (by kernel_rfl) rfl ?_
      refine WA.no 22 rfl rfl (by kernel_rfl) rfl ?_
      refine WA.no 23 rfl rfl (by kernel_rfl) rfl ?_
      refine WA.no 24 rfl rfl (by kernel_rfl) rfl ?_
      refine WA.no 25 rfl rfl (by kernel_rfl) rfl ?_
      refine WA.no 26 rfl rfl (by kernel_rfl) rfl ?_
      refine WA.no 27 rfl rfl (by kernel_rfl) rfl ?_
      refine WA.takeP 28 rfl (RDP.of fun _ => RD.pickF rfl rfl) rfl (by kernel_rfl) rfl ?_
      refine WA.takeP 29 rfl (RDP.of fun _ => RD.move rfl) rfl (by kernel_rfl) rfl ?_
      refine WA.no 30 rfl rfl (by kernel_rfl) rfl ?_
      refine WA.no 31 rfl rfl (by kernel_rfl) rfl ?_
      refine WA.no 32 rfl rfl (by kernel_rfl) rfl ?_
      refine WA.no 33 rfl rfl (by kernel_rfl) rfl ?_
      refine WA.no 34 rfl rfl (by kernel_rfl) rfl ?_
      refine WA.takeP 35 rfl (RDP.of fun _ => RD.pickF rfl rfl) rfl (by kernel_rfl) rfl ?_
      refine WA.takeP 36 rfl (RDP.of fun _ => RD.assign rfl) rfl (by kernel_rfl) rfl ?_
      refine WA.done (by kernel_rfl) ?_
      refine JE.seqN ?_
      refine J.ret ?_
      refine JE.ret rfl (.tmp rfl .nil) (fun w hS => ?_)
      first | exact CS.fin hS rfl | (exfalso; omega) | exact CS.fin hS (by simp_all)

end Go.Proofs.Ytpojkjabngkfgaa
