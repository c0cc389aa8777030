/- Contracts of functions of the program, each walked once; written by a program of our own. -/
import Derived.Test.YtnfkalfpijolkaaGn
import Derived.Test.YtnfkalfpijolkaaSo
namespace Go.Proofs.Ytnfkalfpijolkaa
open Go Go.RowKit
set_option maxRecDepth 4000

theorem law_c (n : Int) (v : Value) (xs : List (Int × Int)) (i : Int) (w : World) (_hn : -9223372036854775808 ≤ n ∧ n ≤ 9223372036854775807) (hrn : Rd w v 2 (xs.map bv)) (_hbn : ∀ x ∈ xs, InI64 x.1 ∧ InI64 x.2) (_hi : -9223372036854775808 ≤ i ∧ i ≤ 9223372036854775807) :
    CS Try.prog 9 [.agg #[.int .i64 n, v], .int .i64 i] w (.bool true) := by
 have hcl := compI_len n xs i
 refine calls_of_J (mu := (fun _ => False)) (m := [.ro v 2 (xs.map bv)]) (e := [(0, .agg #[.int .i64 n, v]), (1, .int .i64 i)]) Try.func9 rfl rfl (.cons rfl (.cons rfl .nil)) (((St.init _ _).ro0 hrn (by decide))) ?_
 refine J.seq ?_
 refine J.reg ?_
 refine WL.efS (EF.boxA rfl) rfl rfl ?_
 intro b2 _
 refine WL.rd (RD.assign rfl) rfl rfl ?_
 refine WL.nil ?_
 refine JE.seqN ?_
 refine J.seq ?_
 refine J.reg ?_
 refine WL.rd (RD.assign rfl) rfl rfl ?_
 refine WL.nil ?_
 refine JE.seqN ?_
 refine J.seq ?_
 refine J.reg ?_
 refine WL.rd (RD.loadA rfl rfl) rfl rfl ?_
 refine WL.rd (RD.move rfl) rfl rfl ?_
 refine WL.efS (EF.callS (.cons rfl (.cons rfl .nil)) (fun w hS => szGraph_c _ _ _ _ _ (by exact RdI.rd hS) (by omega))) rfl rfl ?_
 rintro ⟨⟩ -
 refine WL.rd (RD.assign rfl) rfl rfl ?_
 refine WL.nil ?_
 refine JE.seqN ?_
 refine J.seq ?_
 refine J.seq ?_
 refine J.reg ?_
 refine WL.rd (RD.move rfl) rfl rfl ?_
 refine WL.rd (RD.lss rfl rfl) rfl rfl ?_
 refine WL.nil ?_
 refine JE.seqN ?_
 refine J.condP rfl (fun hc17 => ?_) (fun hc17 => ?_)
 ·
  refine J.seq ?_
  refine J.reg ?_
  refine WL.rd (RD.assign rfl) rfl rfl ?_
  refine WL.nil ?_
  refine JE.seqN ?_
  refine J.ret ?_
  refine JE.ret rfl (.tmp rfl .nil) (fun w hS => ?_)
  first | exact CS.fin hS rfl | (exfalso; omega) | exact CS.fin hS (by simp_all [mkRes])
 ·
  obtain ⟨hz17, hy17⟩ := szf_nn hc17
  refine J.skip ?_
  refine JE.seqN ?_
  refine J.seq ?_
  refine J.reg ?_
  refine WL.rd (RD.loadA rfl rfl) rfl rfl ?_
  refine WL.efS (EF.callN (.cons rfl .nil) (fun w hS => toGraph_c _ _ _ _ (by exact RdI.rd hS) (by omega))) rfl rfl ?_
  rintro v19 -
  refine WL.rd (RD.move rfl) rfl rfl ?_
  refine WL.efS (EF.callN (.cons rfl (.cons rfl .nil)) (fun w hS => sComponentOfBar_c _ _ _ _ _ (by exact RdI.rd hS) (by omega))) rfl rfl ?_
  rintro v21 -
  refine WL.rd (RD.assign rfl) rfl rfl ?_
  refine WL.nil ?_
  refine JE.seqN ?_
  refine J.seq ?_
  refine J.reg ?_
  refine WL.rd (RD.loadA rfl rfl) rfl rfl ?_
  refine WL.efS (EF.callN (.cons rfl .nil) (fun w hS => toGraph_c _ _ _ _ (by exact RdI.rd hS) (by omega))) rfl rfl ?_
  rintro v23 -
  refine WL.efS (EF.allocA) rfl rfl ?_
  intro b7 _
  refine WL.efN (EF.storeA rfl rfl rfl rfl) rfl ?_
  rintro ⟨⟩ -
  refine WL.nil ?_
  refine JE.seqN ?_
  refine J.seq ?_
  refine J.reg ?_
  refine WL.rd (RD.loadA rfl rfl) rfl rfl ?_
  refine WL.rd (RD.move rfl) rfl rfl ?_
  refine WL.efS (EF.callN (.cons rfl (.cons rfl .nil)) (fun w hS => iComponentOfBar_c _ _ _ _ _ (by exact RdI.rd hS))) rfl rfl ?_
  rintro v26 -
  refine WL.rd (RD.assign rfl) rfl rfl ?_
  refine WL.nil ?_
  refine JE.seqN ?_
  refine J.seq ?_
  refine J.seq ?_
  refine J.reg ?_
  refine WL.rd (RD.move rfl) rfl rfl ?_
  refine WL.rd (RD.move rfl) rfl rfl ?_
  refine WL.efS (EF.callS (.cons rfl (.cons rfl .nil)) (fun w hS => eqIntS_c _ _ _ _ _ (by exact RdI.rd hS) (by exact RdI.rd hS))) rfl rfl ?_
  rintro ⟨⟩ -
  refine WL.rd (RD.notP rfl) rfl rfl ?_
  refine WL.nil ?_
  refine JE.seqN ?_
  refine J.condP rfl (fun hc30 => ?_) (fun hc30 => ?_)
  ·
   refine J.seq ?_
   refine J.reg ?_
   refine WL.rd (RD.assign rfl) rfl rfl ?_
   refine WL.nil ?_
   refine JE.seqN ?_
   refine J.ret ?_
   refine JE.ret rfl (.tmp rfl .nil) (fun w hS => ?_)
   first | exact CS.fin hS rfl | (exfalso; omega) | exact CS.fin hS (by simp_all)
  ·
   refine J.skip ?_
   refine JE.seqN ?_
   refine J.seq ?_
   refine J.seq ?_
   refine J.anyAll [] ?_
   refine WA.take 0 rfl (RD.loadA rfl rfl) rfl (by kernel_rfl) rfl ?_
   refine WA.take 1 rfl (RD.loadA rfl rfl) rfl (by kernel_rfl) rfl ?_
   refine WA.one (i := 2) (by kernel_rfl) ?_
   refine WAi.efS rfl (EF.callN (.cons rfl .nil) (fun w hS => toGraph_c _ _ _ _ (by exact RdI.rd hS) (by omega))) rfl rfl (fun _ => SubI.sub) ?_
   rintro v33 -
   refine WA.one (i := 3) (by kernel_rfl) ?_
   refine WAi.efS rfl (EF.callS (.cons rfl (.cons rfl .nil)) (fun w hS => eqGraph_c _ _ _ _ _ _ _ (by exact RdI.rd hS) (by exact RdI.rd hS))) rfl rfl (fun _ => SubI.sub) ?_
   rintro ⟨⟩ -
   refine WA.takeP 4 rfl (RDP.of fun _ => RD.notP rfl) rfl (by kernel_rfl) rfl ?_
   refine WA.done (by kernel_rfl) ?_
   refine JE.seqN ?_
   refine J.condP rfl (fun hc35 => ?_) (fun hc35 => ?_)
   ·
    refine J.seq ?_
    refine J.reg ?_
    refine WL.rd (RD.assign rfl) rfl rfl ?_
    refine WL.nil ?_
    refine JE.seqN ?_
    refine J.ret ?_
    refine JE.ret rfl (.tmp rfl .nil) (fun w hS => ?_)
    first | exact CS.fin hS rfl | (exfalso; omega) | exact CS.fin hS (by simp_all)
   ·
    refine J.skip ?_
    refine JE.seqN ?_
    refine J.seq ?_
    refine J.reg ?_
    refine WL.rd (RD.assign rfl) rfl rfl ?_
    refine WL.nil ?_
    refine JE.seqN ?_
    refine J.seq ?_
    refine J.reg ?_
    refine WL.rd (RD.loadA rfl rfl) rfl rfl ?_
    refine WL.rd (RD.move rfl) rfl rfl ?_
    refine WL.efS (EF.callM (.cons rfl (.cons rfl .nil)) (.row .nil) .nil (fun w hS => markGraph_c _ _ _ _ _ (by omega) (by omega)) (by simp [En.rdb])) rfl rfl ?_
    rintro ⟨⟩ -
    refine WL.rd (RD.assign rfl) rfl rfl ?_
    refine WL.nil ?_
    refine JE.seqN ?_
    refine J.seq ?_
    refine J.seq ?_
    refine J.reg ?_
    refine WL.rd (RD.move rfl) rfl rfl ?_
    refine WL.rd (RD.lss rfl rfl) rfl rfl ?_
    refine WL.rd (RD.move rfl) rfl rfl ?_
    refine WL.caseP 41 rfl (fun hg41 => ?_) (fun hg41 => ?_)
    ·
     refine WL.noS rfl rfl ?_
     refine WL.noS rfl rfl ?_
     refine WL.noS rfl rfl ?_
     refine WL.noS rfl rfl ?_
     refine WL.rd (RD.pickT rfl rfl) rfl rfl ?_
     refine WL.nil ?_
     refine JE.seqN ?_
     refine J.condT rfl ?_
     refine J.seq ?_
     refine J.reg ?_
     refine WL.rd (RD.assign rfl) rfl rfl ?_
     refine WL.nil ?_
     refine JE.seqN ?_
     refine J.ret ?_
     refine JE.ret rfl (.tmp rfl .nil) (fun w hS => ?_)
     first | exact CS.fin hS rfl | (exfalso; omega) | exact CS.fin hS (by simp_all [mkRes])
    ·
     refine WL.rd (RD.move rfl) rfl rfl ?_
     refine WL.rd (RD.move rfl) rfl rfl ?_
     refine WL.efS (EF.callS (.cons rfl (.cons rfl .nil)) (fun w hS => eqIntS_c _ _ _ _ _ (by exact RdI.rd hS) (by exact RdI.rd hS))) rfl rfl ?_
     rintro ⟨⟩ -
     refine WL.rd (RD.notP rfl) rfl rfl ?_
     refine WL.rd (RD.pickF rfl rfl) rfl rfl ?_
     refine WL.nil ?_
     refine JE.seqN ?_
     refine J.condP rfl (fun hc46 => ?_) (fun hc46 => ?_)
     ·
      refine J.seq ?_
      refine J.reg ?_
      refine WL.rd (RD.assign rfl) rfl rfl ?_
      refine WL.nil ?_
      refine JE.seqN ?_
      refine J.ret ?_
      refine JE.ret rfl (.tmp rfl .nil) (fun w hS => ?_)
      first | exact CS.fin hS rfl | (exfalso; omega) | exact CS.fin hS (by simp_all)
     ·
      refine J.skip ?_
      refine JE.seqN ?_
      refine J.seq ?_
      refine J.reg ?_
      refine WL.rd (RD.assign rfl) rfl rfl ?_
      refine WL.nil ?_
      refine JE.seqN ?_
      refine J.seq ?_
      refine J.reg ?_
      refine WL.rd (RD.move rfl) rfl rfl ?_
      refine WL.rd (RD.move rfl) rfl rfl ?_
      refine WL.efS (EF.callM (.cons rfl (.cons rfl .nil)) (.row .nil) .nil (fun w hS => markIntS_c _ _ _ _ (by omega) (by omega)) (by simp [En.rdb])) rfl rfl ?_
      rintro ⟨⟩ -
      refine WL.rd (RD.assign rfl) rfl rfl ?_
      refine WL.nil ?_
      refine JE.seqN ?_
      refine J.seq ?_
      refine J.reg ?_
      refine WL.rd (RD.assign rfl) rfl rfl ?_
      refine WL.nil ?_
      refine JE.seqN ?_
      refine J.seq ?_
      refine J.reg ?_
      refine WL.rd (RD.move rfl) rfl rfl ?_
      refine WL.rd (RD.move rfl) rfl rfl ?_
      refine WL.efS (EF.callS (.cons rfl (.cons rfl .nil)) (fun w hS => heldIntS_c _ _ _ _ (by exact RdI.rd hS) (by omega) (by omega))) rfl rfl ?_
      rintro ⟨⟩ -
      refine WL.rd (RD.assign rfl) rfl rfl ?_
      refine WL.nil ?_
      refine JE.seqN ?_
      refine J.seq ?_
      refine J.seq ?_
      refine J.reg ?_
      refine WL.rd (RD.move rfl) rfl rfl ?_
      refine WL.rd (RD.lss rfl rfl) rfl rfl ?_
      refine WL.nil ?_
      refine JE.seqN ?_
      refine J.condP rfl (fun hc54 => ?_) (fun hc54 => ?_)
      ·
       refine J.seq ?_
       refine J.reg ?_
       refine WL.rd (RD.assign rfl) rfl rfl ?_
       refine WL.nil ?_
       refine JE.seqN ?_
       refine J.ret ?_
       refine JE.ret rfl (.tmp rfl .nil) (fun w hS => ?_)
       first | exact CS.fin hS rfl | (exfalso; omega) | exact CS.fin hS (by simp_all [mkRes])
      ·
       refine J.skip ?_
       refine JE.seqN ?_
       refine J.seq ?_
       refine J.seq ?_
       refine J.reg ?_
       refine WL.rd (RD.move rfl) rfl rfl ?_
       refine WL.rd (RD.move rfl) rfl rfl ?_
       refine WL.rd (RD.neq rfl rfl) rfl rfl ?_
       refine WL.nil ?_
       refine JE.seqN ?_
       refine J.condP rfl (fun hc57 => ?_) (fun hc57 => ?_)
       ·
        refine J.seq ?_
        refine J.reg ?_
        refine WL.rd (RD.assign rfl) rfl rfl ?_
        refine WL.nil ?_
        refine JE.seqN ?_
        refine J.ret ?_
        refine JE.ret rfl (.tmp rfl .nil) (fun w hS => ?_)
        first | exact CS.fin hS rfl | (exfalso; omega) | exact CS.fin hS (by simp_all [mkRes])
       ·
        refine J.skip ?_
        refine JE.seqN ?_
        refine J.seq ?_
        refine J.reg ?_
        refine WL.rd (RD.loadA rfl rfl) rfl rfl ?_
        refine WL.efS (EF.callN (.cons rfl .nil) (fun w hS => toGraph_c _ _ _ _ (by exact RdI.rd hS) (by omega))) rfl rfl ?_
        rintro v59 -
        refine WL.rd (RD.move rfl) rfl rfl ?_
        refine WL.efS (EF.callN (.cons rfl (.cons rfl .nil)) (fun w hS => iComponentOfBar_c _ _ _ _ _ (by exact RdI.rd hS))) rfl rfl ?_
        rintro v61 -
        refine WL.rd (RD.assign rfl) rfl rfl ?_
        refine WL.nil ?_
        refine JE.seqN ?_
        refine J.seq ?_
        refine J.seq ?_
        refine J.reg ?_
        refine WL.rd (RD.move rfl) rfl rfl ?_
        refine WL.rd (RD.move rfl) rfl rfl ?_
        refine WL.efS (EF.callS (.cons rfl (.cons rfl .nil)) (fun w hS => eqIntS_c _ _ _ _ _ (by exact RdI.rd hS) (by exact RdI.rd hS))) rfl rfl ?_
        rintro ⟨⟩ -
        refine WL.rd (RD.notP rfl) rfl rfl ?_
        refine WL.nil ?_
        refine JE.seqN ?_
        refine J.condP rfl (fun hc65 => ?_) (fun hc65 => ?_)
        ·
         refine J.seq ?_
         refine J.reg ?_
         refine WL.rd (RD.assign rfl) rfl rfl ?_
         refine WL.nil ?_
         refine JE.seqN ?_
         refine J.ret ?_
         refine JE.ret rfl (.tmp rfl .nil) (fun w hS => ?_)
         first | exact CS.fin hS rfl | (exfalso; omega) | exact CS.fin hS (by simp_all)
        ·
         refine J.skip ?_
         refine JE.seqN ?_
         refine J.seq ?_
         refine J.reg ?_
         refine WL.rd (RD.assign rfl) rfl rfl ?_
         refine WL.nil ?_
         refine JE.seqN ?_
         refine J.seq ?_
         refine J.reg ?_
         refine WL.rd (RD.move rfl) rfl rfl ?_
         refine WL.rd (RD.move rfl) rfl rfl ?_
         refine WL.efS (EF.callS (.cons rfl (.cons rfl .nil)) (fun w hS => heldIntS_c _ _ _ _ (by exact RdI.rd hS) (by omega) (by omega))) rfl rfl ?_
         rintro ⟨⟩ -
         refine WL.rd (RD.assign rfl) rfl rfl ?_
         refine WL.nil ?_
         refine JE.seqN ?_
         refine J.seq ?_
         refine J.seq ?_
         refine J.reg ?_
         refine WL.rd (RD.move rfl) rfl rfl ?_
         refine WL.rd (RD.lss rfl rfl) rfl rfl ?_
         refine WL.nil ?_
         refine JE.seqN ?_
         refine J.condP rfl (fun hc70 => ?_) (fun hc70 => ?_)
         ·
          refine J.seq ?_
          refine J.reg ?_
          refine WL.rd (RD.assign rfl) rfl rfl ?_
          refine WL.nil ?_
          refine JE.seqN ?_
          refine J.ret ?_
          refine JE.ret rfl (.tmp rfl .nil) (fun w hS => ?_)
          first | exact CS.fin hS rfl | (exfalso; omega) | exact CS.fin hS (by simp_all [mkRes])
         ·
          refine J.skip ?_
          refine JE.seqN ?_
          refine J.seq ?_
          refine J.seq ?_
          refine J.reg ?_
          refine WL.rd (RD.move rfl) rfl rfl ?_
          refine WL.rd (RD.move rfl) rfl rfl ?_
          refine WL.rd (RD.neq rfl rfl) rfl rfl ?_
          refine WL.nil ?_
          refine JE.seqN ?_
          refine J.condP rfl (fun hc73 => ?_) (fun hc73 => ?_)
          ·
           refine J.seq ?_
           refine J.reg ?_
           refine WL.rd (RD.assign rfl) rfl rfl ?_
           refine WL.nil ?_
           refine JE.seqN ?_
           refine J.ret ?_
           refine JE.ret rfl (.tmp rfl .nil) (fun w hS => ?_)
           first | exact CS.fin hS rfl | (exfalso; omega) | exact CS.fin hS (by simp_all [mkRes])
          ·
           refine J.skip ?_
           refine JE.seqN ?_
           refine J.seq ?_
           refine J.reg ?_
           refine WL.rd (RD.assign rfl) rfl rfl ?_
           refine WL.nil ?_
           refine JE.seqN ?_
           refine J.ret ?_
           refine JE.ret rfl (.tmp rfl .nil) (fun w hS => ?_)
           first | exact CS.fin hS rfl | (exfalso; omega) | exact CS.fin hS (by simp_all [mkRes])

end Go.Proofs.Ytnfkalfpijolkaa
