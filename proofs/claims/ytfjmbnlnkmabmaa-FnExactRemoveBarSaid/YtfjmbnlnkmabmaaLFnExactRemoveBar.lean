/- Contracts of functions of the program, each walked once; written by a program of our own. -/
import Derived.Test.YtfjmbnlnkmabmaaGc
import Derived.Test.YtfjmbnlnkmabmaaSo
namespace Go.Proofs.Ytfjmbnlnkmabmaa
open Go Go.RowKit
set_option maxRecDepth 4000

theorem law_c (n : Int) (v : Value) (xs : List (Int × Int)) (i : Int) (w : World) (_hn : -9223372036854775808 ≤ n ∧ n ≤ 9223372036854775807) (hrn : Rd w v 2 (xs.map bv)) (_hbn : ∀ x ∈ xs, InI64 x.1 ∧ InI64 x.2) (_hi : -9223372036854775808 ≤ i ∧ i ≤ 9223372036854775807) :
    CS Try.prog 9 [.agg #[.int .i64 n, v], .int .i64 i] w (.bool true) := by
  refine calls_of_J (mu := (fun _ => False)) (m := [.ro v 2 (xs.map bv)]) (e := [(0, .agg #[.int .i64 n, v]), (1, .int .i64 i)]) Try.func9 rfl rfl (.cons rfl (.cons rfl .nil)) (((St.init _ _).ro0 hrn (by decide))) ?_
  refine J.seq ?_
  refine J.reg ?_
  refine WL.efS (EF.boxA rfl) rfl rfl ?_
  intro b2 _
  refine WL.rd (RD.assign rfl) rfl rfl ?_
  refine WL.nil ?_
  refine JE.seqN ?_
  refine J.seq ?_
  refine J.reg ?_
  refine WL.rd (RD.assign rfl) rfl rfl ?_
  refine WL.nil ?_
  refine JE.seqN ?_
  refine J.seq ?_
  refine J.reg ?_
  refine WL.rd (RD.loadA rfl rfl) rfl rfl ?_
  refine WL.rd (RD.move rfl) rfl rfl ?_
  refine WL.efS (EF.callS (.cons rfl (.cons rfl .nil)) (fun w hS => szGraph_c _ _ _ _ _ (by exact RdI.rd hS) (by omega))) rfl rfl ?_
  rintro ⟨⟩ -
  refine WL.rd (RD.assign rfl) rfl rfl ?_
  refine WL.nil ?_
  refine JE.seqN ?_
  refine J.seq ?_
  refine J.seq ?_
  refine J.reg ?_
  refine WL.rd (RD.move rfl) rfl rfl ?_
  refine WL.rd (RD.lss rfl rfl) rfl rfl ?_
  refine WL.nil ?_
  refine JE.seqN ?_
  refine J.condP rfl (fun hc20 => ?_) (fun hc20 => ?_)
  ·
    refine J.seq ?_
    refine J.reg ?_
    refine WL.rd (RD.assign rfl) rfl rfl ?_
    refine WL.nil ?_
    refine JE.seqN ?_
    refine J.ret ?_
    refine JE.ret rfl (.tmp rfl .nil) (fun w hS => ?_)
    first | exact CS.fin hS rfl | (exfalso; omega) | exact CS.fin hS (by simp_all [mkRes])
  ·
    have hlxs : xs.length ≤ 1048576 := by unfold szf at hc20; split at hc20 <;> omega
    have hzxs : szf 1048576 xs.length = 1048576 - (xs.length : Int) := by unfold szf; rw [if_neg (by omega)]
    refine J.skip ?_
    refine JE.seqN ?_
    refine J.seq ?_
    refine J.reg ?_
    refine WL.rd (RD.loadA rfl rfl) rfl rfl ?_
    refine WL.efS (EF.callN (.cons rfl .nil) (fun w hS => toGraph_c _ _ _ _ (by exact RdI.rd hS) (by omega))) rfl rfl ?_
    rintro v23 -
    refine WL.rd (RD.move rfl) rfl rfl ?_
    refine WL.efS (EF.callN (.cons rfl (.cons rfl .nil)) (fun w hS => sRemoveBar_c _ _ _ _ _ (by exact RdI.rd hS) (by omega))) rfl rfl ?_
    rintro v25 -
    refine WL.rd (RD.move rfl) rfl rfl ?_
    refine WL.rd (RD.extract rfl rfl) rfl rfl ?_
    refine WL.rd (RD.extract rfl rfl) rfl rfl ?_
    refine WL.efS (EF.allocA) rfl rfl ?_
    intro b6 _
    refine WL.efN (EF.storeA rfl rfl rfl rfl) rfl ?_
    rintro ⟨⟩ -
    refine WL.rd (RD.assign rfl) rfl rfl ?_
    refine WL.nil ?_
    refine JE.seqN ?_
    refine J.seq ?_
    refine J.reg ?_
    refine WL.rd (RD.loadA rfl rfl) rfl rfl ?_
    refine WL.efS (EF.callN (.cons rfl .nil) (fun w hS => toGraph_c _ _ _ _ (by exact RdI.rd hS) (by omega))) rfl rfl ?_
    rintro v29 -
    refine WL.efS (EF.allocA) rfl rfl ?_
    intro b8 _
    refine WL.efN (EF.storeA rfl rfl rfl rfl) rfl ?_
    rintro ⟨⟩ -
    refine WL.nil ?_
    refine JE.seqN ?_
    refine J.seq ?_
    refine J.reg ?_
    refine WL.rd (RD.loadA rfl rfl) rfl rfl ?_
    refine WL.rd (RD.move rfl) rfl rfl ?_
    refine WL.efS (EF.callN (.cons rfl (.cons rfl .nil)) (fun w hS => iRemoveBar_c _ _ _ _ _ (by exact RdI.rd hS) (by omega))) rfl rfl ?_
    rintro v33 -
    refine WL.rd (RD.move rfl) rfl rfl ?_
    refine WL.rd (RD.extract rfl rfl) rfl rfl ?_
    refine WL.rd (RD.extract rfl rfl) rfl rfl ?_
    refine WL.efS (EF.allocA) rfl rfl ?_
    intro b9 _
    refine WL.efN (EF.storeA rfl rfl rfl rfl) rfl ?_
    rintro ⟨⟩ -
    refine WL.rd (RD.assign rfl) rfl rfl ?_
    refine WL.nil ?_
    refine JE.seqN ?_
    refine J.seq ?_
    refine J.seq ?_
    refine J.reg ?_
    refine WL.rd (RD.loadA rfl rfl) rfl rfl ?_
    refine WL.rd (RD.loadA rfl rfl) rfl rfl ?_
    refine WL.efS (EF.callS (.cons rfl (.cons rfl .nil)) (fun w hS => eqGraph_c _ _ _ _ _ _ _ (by exact RdI.rd hS) (by exact RdI.rd hS))) rfl rfl ?_
    rintro ⟨⟩ -
    refine WL.rd (RD.notP rfl) rfl rfl ?_
    refine WL.rd (RD.move rfl) rfl rfl ?_
    refine WL.caseP 40 rfl (fun hg40 => ?_) (fun hg40 => ?_)
    ·
      refine WL.noS rfl rfl ?_
      refine WL.noS rfl rfl ?_
      refine WL.noS rfl rfl ?_
      refine WL.rd (RD.pickT rfl rfl) rfl rfl ?_
      refine WL.nil ?_
      refine JE.seqN ?_
      refine J.condT rfl ?_
      refine J.seq ?_
      refine J.reg ?_
      refine WL.rd (RD.assign rfl) rfl rfl ?_
      refine WL.nil ?_
      refine JE.seqN ?_
      refine J.ret ?_
      refine JE.ret rfl (.tmp rfl .nil) (fun w hS => ?_)
      first | exact CS.fin hS rfl | (exfalso; omega) | exact CS.fin hS (by simp_all)
    ·
      refine WL.rd (RD.move rfl) rfl rfl ?_
      refine WL.rd (RD.move rfl) rfl rfl ?_
      refine WL.rd (RD.neqB rfl rfl) rfl rfl ?_
      refine WL.rd (RD.pickF rfl rfl) rfl rfl ?_
      refine WL.nil ?_
      refine JE.seqN ?_
      refine J.cond rfl (fun hc44 => ?_) (fun hc44 => ?_)
      ·
        refine J.seq ?_
        refine J.reg ?_
        refine WL.rd (RD.assign rfl) rfl rfl ?_
        refine WL.nil ?_
        refine JE.seqN ?_
        refine J.ret ?_
        refine JE.ret rfl (.tmp rfl .nil) (fun w hS => ?_)
        first | exact CS.fin hS rfl | (exfalso; omega) | exact CS.fin hS (by simp_all)
      ·
        have hrl : (rmB n xs i).length ≤ 1048576 := rmB_len n xs i (by omega)
        refine J.skip ?_
        refine JE.seqN ?_
        refine J.seq ?_
        refine J.seq ?_
        refine J.anyAll [] ?_
        refine WA.take 0 rfl (RD.loadA rfl rfl) rfl (by kernel_rfl) rfl ?_
        refine WA.take 1 rfl (RD.loadA rfl rfl) rfl (by kernel_rfl) rfl ?_
        refine WA.one (i := 2) (by kernel_rfl) ?_
        refine WAi.efS rfl (EF.callN (.cons rfl .nil) (fun w hS => toGraph_c _ _ _ _ (by exact RdI.rd hS) (by omega))) rfl rfl (fun _ => SubI.sub) ?_
        rintro v47 -
        refine WA.one (i := 3) (by kernel_rfl) ?_
        refine WAi.efS rfl (EF.callS (.cons rfl (.cons rfl .nil)) (fun w hS => eqGraph_c _ _ _ _ _ _ _ (by exact RdI.rd hS) (by exact RdI.rd hS))) rfl rfl (fun _ => SubI.sub) ?_
        rintro ⟨⟩ -
        refine WA.takeP 4 rfl (RDP.of fun _ => RD.notP rfl) rfl (by kernel_rfl) rfl ?_
        refine WA.done (by kernel_rfl) ?_
        refine JE.seqN ?_
        refine J.condP rfl (fun hc49 => ?_) (fun hc49 => ?_)
        ·
          refine J.seq ?_
          refine J.reg ?_
          refine WL.rd (RD.assign rfl) rfl rfl ?_
          refine WL.nil ?_
          refine JE.seqN ?_
          refine J.ret ?_
          refine JE.ret rfl (.tmp rfl .nil) (fun w hS => ?_)
          first | exact CS.fin hS rfl | (exfalso; omega) | exact CS.fin hS (by simp_all)
        ·
          refine J.skip ?_
          refine JE.seqN ?_
          refine J.seq ?_
          refine J.reg ?_
          refine WL.rd (RD.assign rfl) rfl rfl ?_
          refine WL.nil ?_
          refine JE.seqN ?_
          refine J.seq ?_
          refine J.reg ?_
          refine WL.rd (RD.loadA rfl rfl) rfl rfl ?_
          refine WL.rd (RD.move rfl) rfl rfl ?_
          refine WL.efS (EF.callM (.cons rfl (.cons rfl .nil)) (.row .nil) .nil (fun w hS => markGraph_c _ _ _ _ _ (by omega) (by omega)) (by simp [En.rdb])) rfl rfl ?_
          rintro ⟨⟩ -
          refine WL.rd (RD.assign rfl) rfl rfl ?_
          refine WL.nil ?_
          refine JE.seqN ?_
          refine J.seq ?_
          refine J.seq ?_
          refine J.reg ?_
          refine WL.rd (RD.move rfl) rfl rfl ?_
          refine WL.rd (RD.lss rfl rfl) rfl rfl ?_
          refine WL.rd (RD.move rfl) rfl rfl ?_
          refine WL.caseP 55 rfl (fun hg55 => ?_) (fun hg55 => ?_)
          ·
            refine WL.noS rfl rfl ?_
            refine WL.noS rfl rfl ?_
            refine WL.noS rfl rfl ?_
            refine WL.noS rfl rfl ?_
            refine WL.rd (RD.pickT rfl rfl) rfl rfl ?_
            refine WL.rd (RD.move rfl) rfl rfl ?_
            refine WL.noS rfl rfl ?_
            refine WL.noS rfl rfl ?_
            refine WL.noS rfl rfl ?_
            refine WL.rd (RD.pickT rfl rfl) rfl rfl ?_
            refine WL.nil ?_
            refine JE.seqN ?_
            refine J.condT rfl ?_
            refine J.seq ?_
            refine J.reg ?_
            refine WL.rd (RD.assign rfl) rfl rfl ?_
            refine WL.nil ?_
            refine JE.seqN ?_
            refine J.ret ?_
            refine JE.ret rfl (.tmp rfl .nil) (fun w hS => ?_)
            first | exact CS.fin hS rfl | (exfalso; omega) | exact CS.fin hS (by simp_all [mkRes])
          ·
            refine WL.rd (RD.loadA rfl rfl) rfl rfl ?_
            refine WL.rd (RD.loadA rfl rfl) rfl rfl ?_
            refine WL.efS (EF.callS (.cons rfl (.cons rfl .nil)) (fun w hS => eqGraph_c _ _ _ _ _ _ _ (by exact RdI.rd hS) (by exact RdI.rd hS))) rfl rfl ?_
            rintro ⟨⟩ -
            refine WL.rd (RD.notP rfl) rfl rfl ?_
            refine WL.rd (RD.pickF rfl rfl) rfl rfl ?_
            refine WL.rd (RD.move rfl) rfl rfl ?_
            refine WL.caseP 61 rfl (fun hg61 => ?_) (fun hg61 => ?_)
            ·
              refine WL.noS rfl rfl ?_
              refine WL.noS rfl rfl ?_
              refine WL.noS rfl rfl ?_
              refine WL.rd (RD.pickT rfl rfl) rfl rfl ?_
              refine WL.nil ?_
              refine JE.seqN ?_
              refine J.condT rfl ?_
              refine J.seq ?_
              refine J.reg ?_
              refine WL.rd (RD.assign rfl) rfl rfl ?_
              refine WL.nil ?_
              refine JE.seqN ?_
              refine J.ret ?_
              refine JE.ret rfl (.tmp rfl .nil) (fun w hS => ?_)
              first | exact CS.fin hS rfl | (exfalso; omega) | exact CS.fin hS (by simp_all)
            ·
              refine WL.rd (RD.move rfl) rfl rfl ?_
              refine WL.rd (RD.move rfl) rfl rfl ?_
              refine WL.rd (RD.neqB rfl rfl) rfl rfl ?_
              refine WL.rd (RD.pickF rfl rfl) rfl rfl ?_
              refine WL.nil ?_
              refine JE.seqN ?_
              refine J.cond rfl (fun hc65 => ?_) (fun hc65 => ?_)
              ·
                refine J.seq ?_
                refine J.reg ?_
                refine WL.rd (RD.assign rfl) rfl rfl ?_
                refine WL.nil ?_
                refine JE.seqN ?_
                refine J.ret ?_
                refine JE.ret rfl (.tmp rfl .nil) (fun w hS => ?_)
                first | exact CS.fin hS rfl | (exfalso; omega) | exact CS.fin hS (by simp_all)
              ·
                refine J.skip ?_
                refine JE.seqN ?_
                refine J.seq ?_
                refine J.reg ?_
                refine WL.rd (RD.assign rfl) rfl rfl ?_
                refine WL.nil ?_
                refine JE.seqN ?_
                refine J.seq ?_
                refine J.reg ?_
                refine WL.rd (RD.loadA rfl rfl) rfl rfl ?_
                refine WL.rd (RD.move rfl) rfl rfl ?_
                refine WL.efS (EF.callM (.cons rfl (.cons rfl .nil)) (.row .nil) .nil (fun w hS => markGraph_c _ _ _ _ _ (by omega) (by omega)) (by simp [En.rdb])) rfl rfl ?_
                rintro ⟨⟩ -
                refine WL.rd (RD.assign rfl) rfl rfl ?_
                refine WL.nil ?_
                refine JE.seqN ?_
                refine J.seq ?_
                refine J.reg ?_
                refine WL.rd (RD.assign rfl) rfl rfl ?_
                refine WL.nil ?_
                refine JE.seqN ?_
                refine J.seq ?_
                refine J.reg ?_
                refine WL.rd (RD.loadA rfl rfl) rfl rfl ?_
                refine WL.rd (RD.move rfl) rfl rfl ?_
                refine WL.efS (EF.callS (.cons rfl (.cons rfl .nil)) (fun w hS => heldGraph_c _ _ _ _ _ (by exact RdI.rd hS) (by omega) (by omega))) rfl rfl ?_
                rintro ⟨⟩ -
                refine WL.rd (RD.assign rfl) rfl rfl ?_
                refine WL.nil ?_
                refine JE.seqN ?_
                refine J.seq ?_
                refine J.seq ?_
                refine J.reg ?_
                refine WL.rd (RD.move rfl) rfl rfl ?_
                refine WL.rd (RD.lss rfl rfl) rfl rfl ?_
                refine WL.nil ?_
                refine JE.seqN ?_
                refine J.condP rfl (fun hc73 => ?_) (fun hc73 => ?_)
                ·
                  refine J.seq ?_
                  refine J.reg ?_
                  refine WL.rd (RD.assign rfl) rfl rfl ?_
                  refine WL.nil ?_
                  refine JE.seqN ?_
                  refine J.ret ?_
                  refine JE.ret rfl (.tmp rfl .nil) (fun w hS => ?_)
                  first | exact CS.fin hS rfl | (exfalso; omega) | exact CS.fin hS (by simp_all [mkRes])
                ·
                  refine J.skip ?_
                  refine JE.seqN ?_
                  refine J.seq ?_
                  refine J.seq ?_
                  refine J.reg ?_
                  refine WL.rd (RD.move rfl) rfl rfl ?_
                  refine WL.rd (RD.move rfl) rfl rfl ?_
                  refine WL.rd (RD.neq rfl rfl) rfl rfl ?_
                  refine WL.nil ?_
                  refine JE.seqN ?_
                  refine J.condP rfl (fun hc76 => ?_) (fun hc76 => ?_)
                  ·
                    refine J.seq ?_
                    refine J.reg ?_
                    refine WL.rd (RD.assign rfl) rfl rfl ?_
                    refine WL.nil ?_
                    refine JE.seqN ?_
                    refine J.ret ?_
                    refine JE.ret rfl (.tmp rfl .nil) (fun w hS => ?_)
                    first | exact CS.fin hS rfl | (exfalso; omega) | exact CS.fin hS (by simp_all [mkRes])
                  ·
                    refine J.skip ?_
                    refine JE.seqN ?_
                    refine J.seq ?_
                    refine J.reg ?_
                    refine WL.rd (RD.loadA rfl rfl) rfl rfl ?_
                    refine WL.efS (EF.callN (.cons rfl .nil) (fun w hS => toGraph_c _ _ _ _ (by exact RdI.rd hS) (by omega))) rfl rfl ?_
                    rintro v79 -
                    refine WL.rd (RD.move rfl) rfl rfl ?_
                    refine WL.efS (EF.callN (.cons rfl (.cons rfl .nil)) (fun w hS => iRemoveBar_c _ _ _ _ _ (by exact RdI.rd hS) (by omega))) rfl rfl ?_
                    rintro v81 -
                    refine WL.rd (RD.move rfl) rfl rfl ?_
                    refine WL.rd (RD.extract rfl rfl) rfl rfl ?_
                    refine WL.rd (RD.extract rfl rfl) rfl rfl ?_
                    refine WL.efS (EF.allocA) rfl rfl ?_
                    intro b14 _
                    refine WL.efN (EF.storeA rfl rfl rfl rfl) rfl ?_
                    rintro ⟨⟩ -
                    refine WL.rd (RD.assign rfl) rfl rfl ?_
                    refine WL.nil ?_
                    refine JE.seqN ?_
                    refine J.seq ?_
                    refine J.seq ?_
                    refine J.reg ?_
                    refine WL.rd (RD.loadA rfl rfl) rfl rfl ?_
                    refine WL.rd (RD.loadA rfl rfl) rfl rfl ?_
                    refine WL.efS (EF.callS (.cons rfl (.cons rfl .nil)) (fun w hS => eqGraph_c _ _ _ _ _ _ _ (by exact RdI.rd hS) (by exact RdI.rd hS))) rfl rfl ?_
                    rintro ⟨⟩ -
                    refine WL.rd (RD.notP rfl) rfl rfl ?_
                    refine WL.rd (RD.move rfl) rfl rfl ?_
                    refine WL.caseP 88 rfl (fun hg88 => ?_) (fun hg88 => ?_)
                    ·
                      refine WL.noS rfl rfl ?_
                      refine WL.noS rfl rfl ?_
                      refine WL.noS rfl rfl ?_
                      refine WL.rd (RD.pickT rfl rfl) rfl rfl ?_
                      refine WL.nil ?_
                      refine JE.seqN ?_
                      refine J.condT rfl ?_
                      refine J.seq ?_
                      refine J.reg ?_
                      refine WL.rd (RD.assign rfl) rfl rfl ?_
                      refine WL.nil ?_
                      refine JE.seqN ?_
                      refine J.ret ?_
                      refine JE.ret rfl (.tmp rfl .nil) (fun w hS => ?_)
                      first | exact CS.fin hS rfl | (exfalso; omega) | exact CS.fin hS (by simp_all)
                    ·
                      refine WL.rd (RD.move rfl) rfl rfl ?_
                      refine WL.rd (RD.move rfl) rfl rfl ?_
                      refine WL.rd (RD.neqB rfl rfl) rfl rfl ?_
                      refine WL.rd (RD.pickF rfl rfl) rfl rfl ?_
                      refine WL.nil ?_
                      refine JE.seqN ?_
                      refine J.cond rfl (fun hc92 => ?_) (fun hc92 => ?_)
                      ·
                        refine J.seq ?_
                        refine J.reg ?_
                        refine WL.rd (RD.assign rfl) rfl rfl ?_
                        refine WL.nil ?_
                        refine JE.seqN ?_
                        refine J.ret ?_
                        refine JE.ret rfl (.tmp rfl .nil) (fun w hS => ?_)
                        first | exact CS.fin hS rfl | (exfalso; omega) | exact CS.fin hS (by simp_all)
                      ·
                        refine J.skip ?_
                        refine JE.seqN ?_
                        refine J.seq ?_
                        refine J.reg ?_
                        refine WL.rd (RD.assign rfl) rfl rfl ?_
                        refine WL.nil ?_
                        refine JE.seqN ?_
                        refine J.seq ?_
                        refine J.reg ?_
                        refine WL.rd (RD.loadA rfl rfl) rfl rfl ?_
                        refine WL.rd (RD.move rfl) rfl rfl ?_
                        refine WL.efS (EF.callS (.cons rfl (.cons rfl .nil)) (fun w hS => heldGraph_c _ _ _ _ _ (by exact RdI.rd hS) (by omega) (by omega))) rfl rfl ?_
                        rintro ⟨⟩ -
                        refine WL.rd (RD.assign rfl) rfl rfl ?_
                        refine WL.nil ?_
                        refine JE.seqN ?_
                        refine J.seq ?_
                        refine J.seq ?_
                        refine J.reg ?_
                        refine WL.rd (RD.move rfl) rfl rfl ?_
                        refine WL.rd (RD.lss rfl rfl) rfl rfl ?_
                        refine WL.nil ?_
                        refine JE.seqN ?_
                        refine J.condP rfl (fun hc97 => ?_) (fun hc97 => ?_)
                        ·
                          refine J.seq ?_
                          refine J.reg ?_
                          refine WL.rd (RD.assign rfl) rfl rfl ?_
                          refine WL.nil ?_
                          refine JE.seqN ?_
                          refine J.ret ?_
                          refine JE.ret rfl (.tmp rfl .nil) (fun w hS => ?_)
                          first | exact CS.fin hS rfl | (exfalso; omega) | exact CS.fin hS (by simp_all [mkRes])
                        ·
                          refine J.skip ?_
                          refine JE.seqN ?_
                          refine J.seq ?_
                          refine J.seq ?_
                          refine J.reg ?_
                          refine WL.rd (RD.move rfl) rfl rfl ?_
                          refine WL.rd (RD.move rfl) rfl rfl ?_
                          refine WL.rd (RD.neq rfl rfl) rfl rfl ?_
                          refine WL.nil ?_
                          refine JE.seqN ?_
                          refine J.condP rfl (fun hc100 => ?_) (fun hc100 => ?_)
                          ·
                            refine J.seq ?_
                            refine J.reg ?_
                            refine WL.rd (RD.assign rfl) rfl rfl ?_
                            refine WL.nil ?_
                            refine JE.seqN ?_
                            refine J.ret ?_
                            refine JE.ret rfl (.tmp rfl .nil) (fun w hS => ?_)
                            first | exact CS.fin hS rfl | (exfalso; omega) | exact CS.fin hS (by simp_all [mkRes])
                          ·
                            refine J.skip ?_
                            refine JE.seqN ?_
                            refine J.seq ?_
                            refine J.reg ?_
                            refine WL.rd (RD.assign rfl) rfl rfl ?_
                            refine WL.nil ?_
                            refine JE.seqN ?_
                            refine J.ret ?_
                            refine JE.ret rfl (.tmp rfl .nil) (fun w hS => ?_)
                            first | exact CS.fin hS rfl | (exfalso; omega) | exact CS.fin hS (by simp_all [mkRes])

end Go.Proofs.Ytfjmbnlnkmabmaa
