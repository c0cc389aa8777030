/- Contracts of functions of the program, each walked once; written by a program of our own. -/
import Derived.Test.YtmnaohimnladnaaGp
import Derived.Test.YtmnaohimnladnaaSo
namespace Go.Proofs.Ytmnaohimnladnaa
open Go Go.RowKit
set_option maxRecDepth 4000

theorem law_c (n : Int) (v : Value) (xs : List (Int × Int)) (k : Int) (l : Int) (bar : Int) (w : World) (_hn : -9223372036854775808 ≤ n ∧ n ≤ 9223372036854775807) (hrn : Rd w v 2 (xs.map bv)) (_hbn : ∀ x ∈ xs, InI64 x.1 ∧ InI64 x.2) (hk : -9223372036854775808 ≤ k ∧ k ≤ 9223372036854775807) (hl : -9223372036854775808 ≤ l ∧ l ≤ 9223372036854775807) (_hbar : -9223372036854775808 ≤ bar ∧ bar ≤ 9223372036854775807) :
    CS Try.prog 10 [.agg #[.int .i64 n, v], .int .i64 k, .int .i64 l, .int .i64 bar] w (.bool true) := by
 have hcl := cirI_len n k l xs bar
 refine calls_of_J (mu := (fun _ => False)) (m := [.ro v 2 (xs.map bv)]) (e := [(0, .agg #[.int .i64 n, v]), (1, .int .i64 k), (2, .int .i64 l), (3, .int .i64 bar)]) Try.func10 rfl rfl (.cons rfl (.cons rfl (.cons rfl (.cons rfl .nil)))) (((St.init _ _).ro0 hrn (by decide))) ?_
 refine J.seq ?_
 refine J.reg ?_
 refine WL.efS (EF.boxA rfl) rfl rfl ?_
 intro b4 _
 refine WL.rd (RD.assign rfl) rfl rfl ?_
 refine WL.nil ?_
 refine JE.seqN ?_
 refine J.seq ?_
 refine J.reg ?_
 refine WL.rd (RD.assign rfl) rfl rfl ?_
 refine WL.nil ?_
 refine JE.seqN ?_
 refine J.seq ?_
 refine J.reg ?_
 refine WL.rd (RD.loadA rfl rfl) rfl rfl ?_
 refine WL.rd (RD.move rfl) rfl rfl ?_
 refine WL.efS (EF.callS (.cons rfl (.cons rfl .nil)) (fun w hS => szGraph_c _ _ _ _ _ (by exact RdI.rd hS) (by omega))) rfl rfl ?_
 rintro ⟨⟩ -
 refine WL.rd (RD.assign rfl) rfl rfl ?_
 refine WL.nil ?_
 refine JE.seqN ?_
 refine J.seq ?_
 refine J.seq ?_
 refine J.reg ?_
 refine WL.rd (RD.move rfl) rfl rfl ?_
 refine WL.rd (RD.lss rfl rfl) rfl rfl ?_
 refine WL.nil ?_
 refine JE.seqN ?_
 refine J.condP rfl (fun hc24 => ?_) (fun hc24 => ?_)
 ·
  refine J.seq ?_
  refine J.reg ?_
  refine WL.rd (RD.assign rfl) rfl rfl ?_
  refine WL.nil ?_
  refine JE.seqN ?_
  refine J.ret ?_
  refine JE.ret rfl (.tmp rfl .nil) (fun w hS => ?_)
  first | exact CS.fin hS rfl | (exfalso; omega) | exact CS.fin hS (by simp_all [mkRes])
 ·
  obtain ⟨hz24, hy24⟩ := szf_nn hc24
  refine J.skip ?_
  refine JE.seqN ?_
  refine J.seq ?_
  refine J.reg ?_
  refine WL.rd (RD.loadA rfl rfl) rfl rfl ?_
  refine WL.efS (EF.callN (.cons rfl .nil) (fun w hS => toGraph_c _ _ _ _ (by exact RdI.rd hS) (by omega))) rfl rfl ?_
  rintro v27 -
  refine WL.rd (RD.move rfl) rfl rfl ?_
  refine WL.rd (RD.move rfl) rfl rfl ?_
  refine WL.rd (RD.move rfl) rfl rfl ?_
  refine WL.efS (EF.callN (.cons rfl (.cons rfl (.cons rfl (.cons rfl .nil)))) (fun w hS => sCircuitOf_c _ _ _ _ _ _ _ (by exact RdI.rd hS) (by first | assumption | (constructor <;> decide) | omega) (by first | assumption | (constructor <;> decide) | omega) (by omega))) rfl rfl ?_
  rintro v31 -
  refine WL.rd (RD.move rfl) rfl rfl ?_
  refine WL.rd (RD.extract rfl rfl) rfl rfl ?_
  refine WL.rd (RD.extract rfl rfl) rfl rfl ?_
  refine WL.rd (RD.assign rfl) rfl rfl ?_
  refine WL.rd (RD.assign rfl) rfl rfl ?_
  refine WL.nil ?_
  refine JE.seqN ?_
  refine J.seq ?_
  refine J.reg ?_
  refine WL.rd (RD.loadA rfl rfl) rfl rfl ?_
  refine WL.efS (EF.callN (.cons rfl .nil) (fun w hS => toGraph_c _ _ _ _ (by exact RdI.rd hS) (by omega))) rfl rfl ?_
  rintro v35 -
  refine WL.efS (EF.allocA) rfl rfl ?_
  intro b12 _
  refine WL.efN (EF.storeA rfl rfl rfl rfl) rfl ?_
  rintro ⟨⟩ -
  refine WL.nil ?_
  refine JE.seqN ?_
  refine J.seq ?_
  refine J.reg ?_
  refine WL.rd (RD.loadA rfl rfl) rfl rfl ?_
  refine WL.rd (RD.move rfl) rfl rfl ?_
  refine WL.rd (RD.move rfl) rfl rfl ?_
  refine WL.rd (RD.move rfl) rfl rfl ?_
  refine WL.efS (EF.callN (.cons rfl (.cons rfl (.cons rfl (.cons rfl .nil)))) (fun w hS => iCircuitOf_c _ _ _ _ _ _ _ (by exact RdI.rd hS) (by first | assumption | (constructor <;> decide) | omega) (by first | assumption | (constructor <;> decide) | omega) (by omega))) rfl rfl ?_
  rintro v41 -
  refine WL.rd (RD.move rfl) rfl rfl ?_
  refine WL.rd (RD.extract rfl rfl) rfl rfl ?_
  refine WL.rd (RD.extract rfl rfl) rfl rfl ?_
  refine WL.rd (RD.assign rfl) rfl rfl ?_
  refine WL.rd (RD.assign rfl) rfl rfl ?_
  refine WL.nil ?_
  refine JE.seqN ?_
  refine J.seq ?_
  refine J.seq ?_
  refine J.reg ?_
  refine WL.rd (RD.move rfl) rfl rfl ?_
  refine WL.rd (RD.move rfl) rfl rfl ?_
  refine WL.efS (EF.callS (.cons rfl (.cons rfl .nil)) (fun w hS => eqIntS_c _ _ _ _ _ (by exact RdI.rd hS) (by exact RdI.rd hS))) rfl rfl ?_
  rintro ⟨⟩ -
  refine WL.rd (RD.notP rfl) rfl rfl ?_
  refine WL.rd (RD.move rfl) rfl rfl ?_
  refine WL.caseP 48 rfl (fun hg48 => ?_) (fun hg48 => ?_)
  ·
   refine WL.noS rfl rfl ?_
   refine WL.noS rfl rfl ?_
   refine WL.noS rfl rfl ?_
   refine WL.rd (RD.pickT rfl rfl) rfl rfl ?_
   refine WL.nil ?_
   refine JE.seqN ?_
   refine J.condT rfl ?_
   refine J.seq ?_
   refine J.reg ?_
   refine WL.rd (RD.assign rfl) rfl rfl ?_
   refine WL.nil ?_
   refine JE.seqN ?_
   refine J.ret ?_
   refine JE.ret rfl (.tmp rfl .nil) (fun w hS => ?_)
   first | exact CS.fin hS rfl | (exfalso; omega) | exact CS.fin hS (by simp_all)
  ·
   refine WL.rd (RD.move rfl) rfl rfl ?_
   refine WL.rd (RD.move rfl) rfl rfl ?_
   refine WL.rd (RD.neqB rfl rfl) rfl rfl ?_
   refine WL.rd (RD.pickF rfl rfl) rfl rfl ?_
   refine WL.nil ?_
   refine JE.seqN ?_
   refine J.cond rfl (fun hc52 => ?_) (fun hc52 => ?_)
   ·
    refine J.seq ?_
    refine J.reg ?_
    refine WL.rd (RD.assign rfl) rfl rfl ?_
    refine WL.nil ?_
    refine JE.seqN ?_
    refine J.ret ?_
    refine JE.ret rfl (.tmp rfl .nil) (fun w hS => ?_)
    first | exact CS.fin hS rfl | (exfalso; omega) | exact CS.fin hS (by simp_all)
   ·
    refine J.skip ?_
    refine JE.seqN ?_
    refine J.seq ?_
    refine J.seq ?_
    refine J.anyAll [] ?_
    refine WA.take 0 rfl (RD.loadA rfl rfl) rfl (by kernel_rfl) rfl ?_
    refine WA.take 1 rfl (RD.loadA rfl rfl) rfl (by kernel_rfl) rfl ?_
    refine WA.one (i := 2) (by kernel_rfl) ?_
    refine WAi.efS rfl (EF.callN (.cons rfl .nil) (fun w hS => toGraph_c _ _ _ _ (by exact RdI.rd hS) (by omega))) rfl rfl (fun _ => SubI.sub) ?_
    rintro v55 -
    refine WA.one (i := 3) (by kernel_rfl) ?_
    refine WAi.efS rfl (EF.callS (.cons rfl (.cons rfl .nil)) (fun w hS => eqGraph_c _ _ _ _ _ _ _ (by exact RdI.rd hS) (by exact RdI.rd hS))) rfl rfl (fun _ => SubI.sub) ?_
    rintro ⟨⟩ -
    refine WA.takeP 4 rfl (RDP.of fun _ => RD.notP rfl) rfl (by kernel_rfl) rfl ?_
    refine WA.done (by kernel_rfl) ?_
    refine JE.seqN ?_
    refine J.condP rfl (fun hc57 => ?_) (fun hc57 => ?_)
    ·
     refine J.seq ?_
     refine J.reg ?_
     refine WL.rd (RD.assign rfl) rfl rfl ?_
     refine WL.nil ?_
     refine JE.seqN ?_
     refine J.ret ?_
     refine JE.ret rfl (.tmp rfl .nil) (fun w hS => ?_)
     first | exact CS.fin hS rfl | (exfalso; omega) | exact CS.fin hS (by simp_all)
    ·
     refine J.skip ?_
     refine JE.seqN ?_
     refine J.seq ?_
     refine J.reg ?_
     refine WL.rd (RD.assign rfl) rfl rfl ?_
     refine WL.nil ?_
     refine JE.seqN ?_
     refine J.seq ?_
     refine J.reg ?_
     refine WL.rd (RD.loadA rfl rfl) rfl rfl ?_
     refine WL.rd (RD.move rfl) rfl rfl ?_
     refine WL.efS (EF.callM (.cons rfl (.cons rfl .nil)) (.row .nil) .nil (fun w hS => markGraph_c _ _ _ _ _ (by omega) (by omega)) (by simp [En.rdb])) rfl rfl ?_
     rintro ⟨⟩ -
     refine WL.rd (RD.assign rfl) rfl rfl ?_
     refine WL.nil ?_
     refine JE.seqN ?_
     refine J.seq ?_
     refine J.seq ?_
     refine J.reg ?_
     refine WL.rd (RD.move rfl) rfl rfl ?_
     refine WL.rd (RD.lss rfl rfl) rfl rfl ?_
     refine WL.rd (RD.move rfl) rfl rfl ?_
     refine WL.caseP 63 rfl (fun hg63 => ?_) (fun hg63 => ?_)
     ·
      refine WL.noS rfl rfl ?_
      refine WL.noS rfl rfl ?_
      refine WL.noS rfl rfl ?_
      refine WL.noS rfl rfl ?_
      refine WL.rd (RD.pickT rfl rfl) rfl rfl ?_
      refine WL.rd (RD.move rfl) rfl rfl ?_
      refine WL.noS rfl rfl ?_
      refine WL.noS rfl rfl ?_
      refine WL.noS rfl rfl ?_
      refine WL.rd (RD.pickT rfl rfl) rfl rfl ?_
      refine WL.nil ?_
      refine JE.seqN ?_
      refine J.condT rfl ?_
      refine J.seq ?_
      refine J.reg ?_
      refine WL.rd (RD.assign rfl) rfl rfl ?_
      refine WL.nil ?_
      refine JE.seqN ?_
      refine J.ret ?_
      refine JE.ret rfl (.tmp rfl .nil) (fun w hS => ?_)
      first | exact CS.fin hS rfl | (exfalso; omega) | exact CS.fin hS (by simp_all [mkRes])
     ·
      refine WL.rd (RD.move rfl) rfl rfl ?_
      refine WL.rd (RD.move rfl) rfl rfl ?_
      refine WL.efS (EF.callS (.cons rfl (.cons rfl .nil)) (fun w hS => eqIntS_c _ _ _ _ _ (by exact RdI.rd hS) (by exact RdI.rd hS))) rfl rfl ?_
      rintro ⟨⟩ -
      refine WL.rd (RD.notP rfl) rfl rfl ?_
      refine WL.rd (RD.pickF rfl rfl) rfl rfl ?_
      refine WL.rd (RD.move rfl) rfl rfl ?_
      refine WL.caseP 69 rfl (fun hg69 => ?_) (fun hg69 => ?_)
      ·
       refine WL.noS rfl rfl ?_
       refine WL.noS rfl rfl ?_
       refine WL.noS rfl rfl ?_
       refine WL.rd (RD.pickT rfl rfl) rfl rfl ?_
       refine WL.nil ?_
       refine JE.seqN ?_
       refine J.condT rfl ?_
       refine J.seq ?_
       refine J.reg ?_
       refine WL.rd (RD.assign rfl) rfl rfl ?_
       refine WL.nil ?_
       refine JE.seqN ?_
       refine J.ret ?_
       refine JE.ret rfl (.tmp rfl .nil) (fun w hS => ?_)
       first | exact CS.fin hS rfl | (exfalso; omega) | exact CS.fin hS (by simp_all)
      ·
       refine WL.rd (RD.move rfl) rfl rfl ?_
       refine WL.rd (RD.move rfl) rfl rfl ?_
       refine WL.rd (RD.neqB rfl rfl) rfl rfl ?_
       refine WL.rd (RD.pickF rfl rfl) rfl rfl ?_
       refine WL.nil ?_
       refine JE.seqN ?_
       refine J.cond rfl (fun hc73 => ?_) (fun hc73 => ?_)
       ·
        refine J.seq ?_
        refine J.reg ?_
        refine WL.rd (RD.assign rfl) rfl rfl ?_
        refine WL.nil ?_
        refine JE.seqN ?_
        refine J.ret ?_
        refine JE.ret rfl (.tmp rfl .nil) (fun w hS => ?_)
        first | exact CS.fin hS rfl | (exfalso; omega) | exact CS.fin hS (by simp_all)
       ·
        refine J.skip ?_
        refine JE.seqN ?_
        refine J.seq ?_
        refine J.reg ?_
        refine WL.rd (RD.assign rfl) rfl rfl ?_
        refine WL.nil ?_
        refine JE.seqN ?_
        refine J.seq ?_
        refine J.reg ?_
        refine WL.rd (RD.move rfl) rfl rfl ?_
        refine WL.rd (RD.move rfl) rfl rfl ?_
        refine WL.efS (EF.callM (.cons rfl (.cons rfl .nil)) (.row .nil) .nil (fun w hS => markIntS_c _ _ _ _ (by omega) (by omega)) (by simp [En.rdb])) rfl rfl ?_
        rintro ⟨⟩ -
        refine WL.rd (RD.assign rfl) rfl rfl ?_
        refine WL.nil ?_
        refine JE.seqN ?_
        refine J.seq ?_
        refine J.reg ?_
        refine WL.rd (RD.assign rfl) rfl rfl ?_
        refine WL.nil ?_
        refine JE.seqN ?_
        refine J.seq ?_
        refine J.reg ?_
        refine WL.rd (RD.move rfl) rfl rfl ?_
        refine WL.rd (RD.move rfl) rfl rfl ?_
        refine WL.efS (EF.callS (.cons rfl (.cons rfl .nil)) (fun w hS => heldIntS_c _ _ _ _ (by exact RdI.rd hS) (by omega) (by omega))) rfl rfl ?_
        rintro ⟨⟩ -
        refine WL.rd (RD.assign rfl) rfl rfl ?_
        refine WL.nil ?_
        refine JE.seqN ?_
        refine J.seq ?_
        refine J.seq ?_
        refine J.reg ?_
        refine WL.rd (RD.move rfl) rfl rfl ?_
        refine WL.rd (RD.lss rfl rfl) rfl rfl ?_
        refine WL.nil ?_
        refine JE.seqN ?_
        refine J.condP rfl (fun hc81 => ?_) (fun hc81 => ?_)
        ·
         refine J.seq ?_
         refine J.reg ?_
         refine WL.rd (RD.assign rfl) rfl rfl ?_
         refine WL.nil ?_
         refine JE.seqN ?_
         refine J.ret ?_
         refine JE.ret rfl (.tmp rfl .nil) (fun w hS => ?_)
         first | exact CS.fin hS rfl | (exfalso; omega) | exact CS.fin hS (by simp_all [mkRes])
        ·
         refine J.skip ?_
         refine JE.seqN ?_
         refine J.seq ?_
         refine J.seq ?_
         refine J.reg ?_
         refine WL.rd (RD.move rfl) rfl rfl ?_
         refine WL.rd (RD.move rfl) rfl rfl ?_
         refine WL.rd (RD.neq rfl rfl) rfl rfl ?_
         refine WL.nil ?_
         refine JE.seqN ?_
         refine J.condP rfl (fun hc84 => ?_) (fun hc84 => ?_)
         ·
          refine J.seq ?_
          refine J.reg ?_
          refine WL.rd (RD.assign rfl) rfl rfl ?_
          refine WL.nil ?_
          refine JE.seqN ?_
          refine J.ret ?_
          refine JE.ret rfl (.tmp rfl .nil) (fun w hS => ?_)
          first | exact CS.fin hS rfl | (exfalso; omega) | exact CS.fin hS (by simp_all [mkRes])
         ·
          refine J.skip ?_
          refine JE.seqN ?_
          refine J.seq ?_
          refine J.reg ?_
          refine WL.rd (RD.loadA rfl rfl) rfl rfl ?_
          refine WL.efS (EF.callN (.cons rfl .nil) (fun w hS => toGraph_c _ _ _ _ (by exact RdI.rd hS) (by omega))) rfl rfl ?_
          rintro v87 -
          refine WL.rd (RD.move rfl) rfl rfl ?_
          refine WL.rd (RD.move rfl) rfl rfl ?_
          refine WL.rd (RD.move rfl) rfl rfl ?_
          refine WL.efS (EF.callN (.cons rfl (.cons rfl (.cons rfl (.cons rfl .nil)))) (fun w hS => iCircuitOf_c _ _ _ _ _ _ _ (by exact RdI.rd hS) (by first | assumption | (constructor <;> decide) | omega) (by first | assumption | (constructor <;> decide) | omega) (by omega))) rfl rfl ?_
          rintro v91 -
          refine WL.rd (RD.move rfl) rfl rfl ?_
          refine WL.rd (RD.extract rfl rfl) rfl rfl ?_
          refine WL.rd (RD.extract rfl rfl) rfl rfl ?_
          refine WL.rd (RD.assign rfl) rfl rfl ?_
          refine WL.rd (RD.assign rfl) rfl rfl ?_
          refine WL.nil ?_
          refine JE.seqN ?_
          refine J.seq ?_
          refine J.seq ?_
          refine J.reg ?_
          refine WL.rd (RD.move rfl) rfl rfl ?_
          refine WL.rd (RD.move rfl) rfl rfl ?_
          refine WL.efS (EF.callS (.cons rfl (.cons rfl .nil)) (fun w hS => eqIntS_c _ _ _ _ _ (by exact RdI.rd hS) (by exact RdI.rd hS))) rfl rfl ?_
          rintro ⟨⟩ -
          refine WL.rd (RD.notP rfl) rfl rfl ?_
          refine WL.rd (RD.move rfl) rfl rfl ?_
          refine WL.caseP 98 rfl (fun hg98 => ?_) (fun hg98 => ?_)
          ·
           refine WL.noS rfl rfl ?_
           refine WL.noS rfl rfl ?_
           refine WL.noS rfl rfl ?_
           refine WL.rd (RD.pickT rfl rfl) rfl rfl ?_
           refine WL.nil ?_
           refine JE.seqN ?_
           refine J.condT rfl ?_
           refine J.seq ?_
           refine J.reg ?_
           refine WL.rd (RD.assign rfl) rfl rfl ?_
           refine WL.nil ?_
           refine JE.seqN ?_
           refine J.ret ?_
           refine JE.ret rfl (.tmp rfl .nil) (fun w hS => ?_)
           first | exact CS.fin hS rfl | (exfalso; omega) | exact CS.fin hS (by simp_all)
          ·
           refine WL.rd (RD.move rfl) rfl rfl ?_
           refine WL.rd (RD.move rfl) rfl rfl ?_
           refine WL.rd (RD.neqB rfl rfl) rfl rfl ?_
           refine WL.rd (RD.pickF rfl rfl) rfl rfl ?_
           refine WL.nil ?_
           refine JE.seqN ?_
           refine J.cond rfl (fun hc102 => ?_) (fun hc102 => ?_)
           ·
            refine J.seq ?_
            refine J.reg ?_
            refine WL.rd (RD.assign rfl) rfl rfl ?_
            refine WL.nil ?_
            refine JE.seqN ?_
            refine J.ret ?_
            refine JE.ret rfl (.tmp rfl .nil) (fun w hS => ?_)
            first | exact CS.fin hS rfl | (exfalso; omega) | exact CS.fin hS (by simp_all)
           ·
            refine J.skip ?_
            refine JE.seqN ?_
            refine J.seq ?_
            refine J.reg ?_
            refine WL.rd (RD.assign rfl) rfl rfl ?_
            refine WL.nil ?_
            refine JE.seqN ?_
            refine J.seq ?_
            refine J.reg ?_
            refine WL.rd (RD.move rfl) rfl rfl ?_
            refine WL.rd (RD.move rfl) rfl rfl ?_
            refine WL.efS (EF.callS (.cons rfl (.cons rfl .nil)) (fun w hS => heldIntS_c _ _ _ _ (by exact RdI.rd hS) (by omega) (by omega))) rfl rfl ?_
            rintro ⟨⟩ -
            refine WL.rd (RD.assign rfl) rfl rfl ?_
            refine WL.nil ?_
            refine JE.seqN ?_
            refine J.seq ?_
            refine J.seq ?_
            refine J.reg ?_
            refine WL.rd (RD.move rfl) rfl rfl ?_
            refine WL.rd (RD.lss rfl rfl) rfl rfl ?_
            refine WL.nil ?_
            refine JE.seqN ?_
            refine J.condP rfl (fun hc107 => ?_) (fun hc107 => ?_)
            ·
             refine J.seq ?_
             refine J.reg ?_
             refine WL.rd (RD.assign rfl) rfl rfl ?_
             refine WL.nil ?_
             refine JE.seqN ?_
             refine J.ret ?_
             refine JE.ret rfl (.tmp rfl .nil) (fun w hS => ?_)
             first | exact CS.fin hS rfl | (exfalso; omega) | exact CS.fin hS (by simp_all [mkRes])
            ·
             refine J.skip ?_
             refine JE.seqN ?_
             refine J.seq ?_
             refine J.seq ?_
             refine J.reg ?_
             refine WL.rd (RD.move rfl) rfl rfl ?_
             refine WL.rd (RD.move rfl) rfl rfl ?_
             refine WL.rd (RD.neq rfl rfl) rfl rfl ?_
             refine WL.nil ?_
             refine JE.seqN ?_
             refine J.condP rfl (fun hc110 => ?_) (fun hc110 => ?_)
             ·
              refine J.seq ?_
              refine J.reg ?_
              refine WL.rd (RD.assign rfl) rfl rfl ?_
              refine WL.nil ?_
              refine JE.seqN ?_
              refine J.ret ?_
              refine JE.ret rfl (.tmp rfl .nil) (fun w hS => ?_)
              first | exact CS.fin hS rfl | (exfalso; omega) | exact CS.fin hS (by simp_all [mkRes])
             ·
              refine J.skip ?_
              refine JE.seqN ?_
              refine J.seq ?_
              refine J.reg ?_
              refine WL.rd (RD.assign rfl) rfl rfl ?_
              refine WL.nil ?_
              refine JE.seqN ?_
              refine J.ret ?_
              refine JE.ret rfl (.tmp rfl .nil) (fun w hS => ?_)
              first | exact CS.fin hS rfl | (exfalso; omega) | exact CS.fin hS (by simp_all [mkRes])

end Go.Proofs.Ytmnaohimnladnaa
