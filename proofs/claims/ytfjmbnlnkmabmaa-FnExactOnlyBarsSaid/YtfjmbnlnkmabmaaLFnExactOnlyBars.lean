/- Contracts of functions of the program, each walked once; written by a program of our own. -/
import Derived.Test.YtfjmbnlnkmabmaaGc
import Derived.Test.YtfjmbnlnkmabmaaSo
namespace Go.Proofs.Ytfjmbnlnkmabmaa
open Go Go.RowKit
set_option maxRecDepth 4000

theorem law_c (n : Int) (v : Value) (xs : List (Int × Int)) (s : Value) (ys : List Int) (w : World) (_hn : -9223372036854775808 ≤ n ∧ n ≤ 9223372036854775807) (hrn : Rd w v 2 (xs.map bv)) (_hbn : ∀ x ∈ xs, InI64 x.1 ∧ InI64 x.2) (hrs : Rd w s 1 (ys.map iv)) (_hbs : ∀ x ∈ ys, InI64 x) :
    CS Try.prog 10 [.agg #[.int .i64 n, v], s] w (.bool true) := by
  refine calls_of_J (mu := (fun _ => False)) (m := [.ro v 2 (xs.map bv), .ro s 1 (ys.map iv)]) (e := [(0, .agg #[.int .i64 n, v]), (1, s)]) Try.func10 rfl rfl (.cons rfl (.cons rfl .nil)) ((((St.init _ _).ro0 hrs (by decide)).ro0 hrn (by decide))) ?_
  refine J.seq ?_
  refine J.reg ?_
  refine WL.efS (EF.boxA rfl) rfl rfl ?_
  intro b2 _
  refine WL.rd (RD.assign rfl) rfl rfl ?_
  refine WL.nil ?_
  refine JE.seqN ?_
  refine J.seq ?_
  refine J.seq ?_
  refine J.reg ?_
  refine WL.rd (RD.move rfl) rfl rfl ?_
  refine WL.rd (RD.lenR rfl) rfl rfl ?_
  refine WL.rd (RD.gtr rfl rfl) rfl rfl ?_
  refine WL.nil ?_
  refine JE.seqN ?_
  refine J.condP rfl (fun hc16 => ?_) (fun hc16 => ?_)
  ·
    refine J.seq ?_
    refine J.reg ?_
    refine WL.rd (RD.assign rfl) rfl rfl ?_
    refine WL.nil ?_
    refine JE.seqN ?_
    refine J.ret ?_
    refine JE.ret rfl (.tmp rfl .nil) (fun w hS => ?_)
    first | exact CS.fin hS rfl | (exfalso; omega) | exact CS.fin hS (by simp_all [mkRes])
  ·
    refine J.skip ?_
    refine JE.seqN ?_
    refine J.seq ?_
    refine J.reg ?_
    refine WL.rd (RD.assign rfl) rfl rfl ?_
    refine WL.nil ?_
    refine JE.seqN ?_
    refine J.seq ?_
    refine J.reg ?_
    refine WL.rd (RD.loadA rfl rfl) rfl rfl ?_
    refine WL.rd (RD.move rfl) rfl rfl ?_
    refine WL.efS (EF.callS (.cons rfl (.cons rfl .nil)) (fun w hS => szGraph_c _ _ _ _ _ (by exact RdI.rd hS) (by omega))) rfl rfl ?_
    rintro ⟨⟩ -
    refine WL.rd (RD.assign rfl) rfl rfl ?_
    refine WL.nil ?_
    refine JE.seqN ?_
    refine J.seq ?_
    refine J.seq ?_
    refine J.reg ?_
    refine WL.rd (RD.move rfl) rfl rfl ?_
    refine WL.rd (RD.lss rfl rfl) rfl rfl ?_
    refine WL.nil ?_
    refine JE.seqN ?_
    refine J.condP rfl (fun hc21 => ?_) (fun hc21 => ?_)
    ·
      refine J.seq ?_
      refine J.reg ?_
      refine WL.rd (RD.assign rfl) rfl rfl ?_
      refine WL.nil ?_
      refine JE.seqN ?_
      refine J.ret ?_
      refine JE.ret rfl (.tmp rfl .nil) (fun w hS => ?_)
      first | exact CS.fin hS rfl | (exfalso; omega) | exact CS.fin hS (by simp_all [mkRes])
    ·
      have hlxs : xs.length ≤ 1048576 := by unfold szf at hc21; split at hc21 <;> omega
      have hzxs : szf 1048576 xs.length = 1048576 - (xs.length : Int) := by unfold szf; rw [if_neg (by omega)]
      refine J.skip ?_
      refine JE.seqN ?_
      refine J.seq ?_
      refine J.reg ?_
      refine WL.rd (RD.loadA rfl rfl) rfl rfl ?_
      refine WL.efS (EF.callN (.cons rfl .nil) (fun w hS => toGraph_c _ _ _ _ (by exact RdI.rd hS) (by omega))) rfl rfl ?_
      rintro v23 -
      refine WL.rd (RD.move rfl) rfl rfl ?_
      refine WL.efS (EF.callN (.cons rfl .nil) (fun w hS => toIntS_c _ _ _ (by exact RdI.rd hS) (by omega))) rfl rfl ?_
      rintro v25 -
      refine WL.efS (EF.callN (.cons rfl (.cons rfl .nil)) (fun w hS => sOnlyBars_c _ _ _ _ _ _ (by exact RdI.rd hS) (by exact RdI.rd hS) (by omega))) rfl rfl ?_
      rintro v26 -
      refine WL.efS (EF.allocA) rfl rfl ?_
      intro b6 _
      refine WL.efN (EF.storeA rfl rfl rfl rfl) rfl ?_
      rintro ⟨⟩ -
      refine WL.nil ?_
      refine JE.seqN ?_
      refine J.seq ?_
      refine J.reg ?_
      refine WL.rd (RD.loadA rfl rfl) rfl rfl ?_
      refine WL.efS (EF.callN (.cons rfl .nil) (fun w hS => toGraph_c _ _ _ _ (by exact RdI.rd hS) (by omega))) rfl rfl ?_
      rintro v28 -
      refine WL.efS (EF.allocA) rfl rfl ?_
      intro b7 _
      refine WL.efN (EF.storeA rfl rfl rfl rfl) rfl ?_
      rintro ⟨⟩ -
      refine WL.nil ?_
      refine JE.seqN ?_
      refine J.seq ?_
      refine J.reg ?_
      refine WL.rd (RD.move rfl) rfl rfl ?_
      refine WL.efS (EF.callN (.cons rfl .nil) (fun w hS => toIntS_c _ _ _ (by exact RdI.rd hS) (by omega))) rfl rfl ?_
      rintro v30 -
      refine WL.rd (RD.assign rfl) rfl rfl ?_
      refine WL.nil ?_
      refine JE.seqN ?_
      refine J.seq ?_
      refine J.reg ?_
      refine WL.rd (RD.loadA rfl rfl) rfl rfl ?_
      refine WL.rd (RD.move rfl) rfl rfl ?_
      refine WL.efS (EF.callN (.cons rfl (.cons rfl .nil)) (fun w hS => iOnlyBars_c _ _ _ _ _ _ (by exact RdI.rd hS) (by exact RdI.rd hS) (by omega))) rfl rfl ?_
      rintro v33 -
      refine WL.efS (EF.allocA) rfl rfl ?_
      intro b9 _
      refine WL.efN (EF.storeA rfl rfl rfl rfl) rfl ?_
      rintro ⟨⟩ -
      refine WL.nil ?_
      refine JE.seqN ?_
      refine J.seq ?_
      refine J.seq ?_
      refine J.reg ?_
      refine WL.rd (RD.loadA rfl rfl) rfl rfl ?_
      refine WL.rd (RD.loadA rfl rfl) rfl rfl ?_
      refine WL.efS (EF.callS (.cons rfl (.cons rfl .nil)) (fun w hS => eqGraph_c _ _ _ _ _ _ _ (by exact RdI.rd hS) (by exact RdI.rd hS))) rfl rfl ?_
      rintro ⟨⟩ -
      refine WL.rd (RD.notP rfl) rfl rfl ?_
      refine WL.nil ?_
      refine JE.seqN ?_
      refine J.condP rfl (fun hc37 => ?_) (fun hc37 => ?_)
      ·
        refine J.seq ?_
        refine J.reg ?_
        refine WL.rd (RD.assign rfl) rfl rfl ?_
        refine WL.nil ?_
        refine JE.seqN ?_
        refine J.ret ?_
        refine JE.ret rfl (.tmp rfl .nil) (fun w hS => ?_)
        first | exact CS.fin hS rfl | (exfalso; omega) | exact CS.fin hS (by simp_all)
      ·
        have hol := onlyP_len (fun j => decide (j ∈ ys)) xs xs.length
        refine J.skip ?_
        refine JE.seqN ?_
        refine J.seq ?_
        refine J.seq ?_
        refine J.anyAll [] ?_
        refine WA.take 0 rfl (RD.loadA rfl rfl) rfl (by kernel_rfl) rfl ?_
        refine WA.take 1 rfl (RD.loadA rfl rfl) rfl (by kernel_rfl) rfl ?_
        refine WA.one (i := 2) (by kernel_rfl) ?_
        refine WAi.efS rfl (EF.callN (.cons rfl .nil) (fun w hS => toGraph_c _ _ _ _ (by exact RdI.rd hS) (by omega))) rfl rfl (fun _ => SubI.sub) ?_
        rintro v40 -
        refine WA.one (i := 3) (by kernel_rfl) ?_
        refine WAi.efS rfl (EF.callS (.cons rfl (.cons rfl .nil)) (fun w hS => eqGraph_c _ _ _ _ _ _ _ (by exact RdI.rd hS) (by exact RdI.rd hS))) rfl rfl (fun _ => SubI.sub) ?_
        rintro ⟨⟩ -
        refine WA.takeP 4 rfl (RDP.of fun _ => RD.notP rfl) rfl (by kernel_rfl) rfl ?_
        refine WA.done (by kernel_rfl) ?_
        refine JE.seqN ?_
        refine J.condP rfl (fun hc42 => ?_) (fun hc42 => ?_)
        ·
          refine J.seq ?_
          refine J.reg ?_
          refine WL.rd (RD.assign rfl) rfl rfl ?_
          refine WL.nil ?_
          refine JE.seqN ?_
          refine J.ret ?_
          refine JE.ret rfl (.tmp rfl .nil) (fun w hS => ?_)
          first | exact CS.fin hS rfl | (exfalso; omega) | exact CS.fin hS (by simp_all)
        ·
          refine J.skip ?_
          refine JE.seqN ?_
          refine J.seq ?_
          refine J.seq ?_
          refine J.reg ?_
          refine WL.rd (RD.move rfl) rfl rfl ?_
          refine WL.rd (RD.move rfl) rfl rfl ?_
          refine WL.efS (EF.callN (.cons rfl .nil) (fun w hS => toIntS_c _ _ _ (by exact RdI.rd hS) (by omega))) rfl rfl ?_
          rintro v45 -
          refine WL.efS (EF.callS (.cons rfl (.cons rfl .nil)) (fun w hS => eqIntS_c _ _ _ _ _ (by exact RdI.rd hS) (by exact RdI.rd hS))) rfl rfl ?_
          rintro ⟨⟩ -
          refine WL.rd (RD.notP rfl) rfl rfl ?_
          refine WL.nil ?_
          refine JE.seqN ?_
          refine J.condP rfl (fun hc47 => ?_) (fun hc47 => ?_)
          ·
            refine J.seq ?_
            refine J.reg ?_
            refine WL.rd (RD.assign rfl) rfl rfl ?_
            refine WL.nil ?_
            refine JE.seqN ?_
            refine J.ret ?_
            refine JE.ret rfl (.tmp rfl .nil) (fun w hS => ?_)
            first | exact CS.fin hS rfl | (exfalso; omega) | exact CS.fin hS (by simp_all)
          ·
            refine J.skip ?_
            refine JE.seqN ?_
            refine J.seq ?_
            refine J.reg ?_
            refine WL.rd (RD.assign rfl) rfl rfl ?_
            refine WL.nil ?_
            refine JE.seqN ?_
            refine J.seq ?_
            refine J.reg ?_
            refine WL.rd (RD.loadA rfl rfl) rfl rfl ?_
            refine WL.rd (RD.move rfl) rfl rfl ?_
            refine WL.efS (EF.callM (.cons rfl (.cons rfl .nil)) (.row .nil) .nil (fun w hS => markGraph_c _ _ _ _ _ (by omega) (by omega)) (by simp [En.rdb])) rfl rfl ?_
            rintro ⟨⟩ -
            refine WL.rd (RD.assign rfl) rfl rfl ?_
            refine WL.nil ?_
            refine JE.seqN ?_
            refine J.seq ?_
            refine J.reg ?_
            refine WL.rd (RD.move rfl) rfl rfl ?_
            refine WL.rd (RD.move rfl) rfl rfl ?_
            refine WL.efS (EF.callM (.cons rfl (.cons rfl .nil)) (.row .nil) .nil (fun w hS => markIntS_c _ _ _ _ (by omega) (by omega)) (by simp [En.rdb])) rfl rfl ?_
            rintro ⟨⟩ -
            refine WL.rd (RD.assign rfl) rfl rfl ?_
            refine WL.nil ?_
            refine JE.seqN ?_
            refine J.seq ?_
            refine J.seq ?_
            refine J.reg ?_
            refine WL.rd (RD.move rfl) rfl rfl ?_
            refine WL.rd (RD.lss rfl rfl) rfl rfl ?_
            refine WL.rd (RD.move rfl) rfl rfl ?_
            refine WL.caseP 56 rfl (fun hg56 => ?_) (fun hg56 => ?_)
            ·
              refine WL.noS rfl rfl ?_
              refine WL.noS rfl rfl ?_
              refine WL.noS rfl rfl ?_
              refine WL.noS rfl rfl ?_
              refine WL.rd (RD.pickT rfl rfl) rfl rfl ?_
              refine WL.nil ?_
              refine JE.seqN ?_
              refine J.condT rfl ?_
              refine J.seq ?_
              refine J.reg ?_
              refine WL.rd (RD.assign rfl) rfl rfl ?_
              refine WL.nil ?_
              refine JE.seqN ?_
              refine J.ret ?_
              refine JE.ret rfl (.tmp rfl .nil) (fun w hS => ?_)
              first | exact CS.fin hS rfl | (exfalso; omega) | exact CS.fin hS (by simp_all [mkRes])
            ·
              refine WL.rd (RD.loadA rfl rfl) rfl rfl ?_
              refine WL.rd (RD.loadA rfl rfl) rfl rfl ?_
              refine WL.efS (EF.callS (.cons rfl (.cons rfl .nil)) (fun w hS => eqGraph_c _ _ _ _ _ _ _ (by exact RdI.rd hS) (by exact RdI.rd hS))) rfl rfl ?_
              rintro ⟨⟩ -
              refine WL.rd (RD.notP rfl) rfl rfl ?_
              refine WL.rd (RD.pickF rfl rfl) rfl rfl ?_
              refine WL.nil ?_
              refine JE.seqN ?_
              refine J.condP rfl (fun hc61 => ?_) (fun hc61 => ?_)
              ·
                refine J.seq ?_
                refine J.reg ?_
                refine WL.rd (RD.assign rfl) rfl rfl ?_
                refine WL.nil ?_
                refine JE.seqN ?_
                refine J.ret ?_
                refine JE.ret rfl (.tmp rfl .nil) (fun w hS => ?_)
                first | exact CS.fin hS rfl | (exfalso; omega) | exact CS.fin hS (by simp_all)
              ·
                refine J.skip ?_
                refine JE.seqN ?_
                refine J.seq ?_
                refine J.reg ?_
                refine WL.rd (RD.assign rfl) rfl rfl ?_
                refine WL.nil ?_
                refine JE.seqN ?_
                refine J.seq ?_
                refine J.reg ?_
                refine WL.rd (RD.loadA rfl rfl) rfl rfl ?_
                refine WL.rd (RD.move rfl) rfl rfl ?_
                refine WL.efS (EF.callM (.cons rfl (.cons rfl .nil)) (.row .nil) .nil (fun w hS => markGraph_c _ _ _ _ _ (by omega) (by omega)) (by simp [En.rdb])) rfl rfl ?_
                rintro ⟨⟩ -
                refine WL.rd (RD.assign rfl) rfl rfl ?_
                refine WL.nil ?_
                refine JE.seqN ?_
                refine J.seq ?_
                refine J.reg ?_
                refine WL.rd (RD.assign rfl) rfl rfl ?_
                refine WL.nil ?_
                refine JE.seqN ?_
                refine J.seq ?_
                refine J.reg ?_
                refine WL.rd (RD.loadA rfl rfl) rfl rfl ?_
                refine WL.rd (RD.move rfl) rfl rfl ?_
                refine WL.efS (EF.callS (.cons rfl (.cons rfl .nil)) (fun w hS => heldGraph_c _ _ _ _ _ (by exact RdI.rd hS) (by omega) (by omega))) rfl rfl ?_
                rintro ⟨⟩ -
                refine WL.rd (RD.assign rfl) rfl rfl ?_
                refine WL.nil ?_
                refine JE.seqN ?_
                refine J.seq ?_
                refine J.seq ?_
                refine J.reg ?_
                refine WL.rd (RD.move rfl) rfl rfl ?_
                refine WL.rd (RD.lss rfl rfl) rfl rfl ?_
                refine WL.nil ?_
                refine JE.seqN ?_
                refine J.condP rfl (fun hc69 => ?_) (fun hc69 => ?_)
                ·
                  refine J.seq ?_
                  refine J.reg ?_
                  refine WL.rd (RD.assign rfl) rfl rfl ?_
                  refine WL.nil ?_
                  refine JE.seqN ?_
                  refine J.ret ?_
                  refine JE.ret rfl (.tmp rfl .nil) (fun w hS => ?_)
                  first | exact CS.fin hS rfl | (exfalso; omega) | exact CS.fin hS (by simp_all [mkRes])
                ·
                  refine J.skip ?_
                  refine JE.seqN ?_
                  refine J.seq ?_
                  refine J.seq ?_
                  refine J.reg ?_
                  refine WL.rd (RD.move rfl) rfl rfl ?_
                  refine WL.rd (RD.move rfl) rfl rfl ?_
                  refine WL.rd (RD.neq rfl rfl) rfl rfl ?_
                  refine WL.nil ?_
                  refine JE.seqN ?_
                  refine J.condP rfl (fun hc72 => ?_) (fun hc72 => ?_)
                  ·
                    refine J.seq ?_
                    refine J.reg ?_
                    refine WL.rd (RD.assign rfl) rfl rfl ?_
                    refine WL.nil ?_
                    refine JE.seqN ?_
                    refine J.ret ?_
                    refine JE.ret rfl (.tmp rfl .nil) (fun w hS => ?_)
                    first | exact CS.fin hS rfl | (exfalso; omega) | exact CS.fin hS (by simp_all [mkRes])
                  ·
                    refine J.skip ?_
                    refine JE.seqN ?_
                    refine J.seq ?_
                    refine J.reg ?_
                    refine WL.rd (RD.loadA rfl rfl) rfl rfl ?_
                    refine WL.efS (EF.callN (.cons rfl .nil) (fun w hS => toGraph_c _ _ _ _ (by exact RdI.rd hS) (by omega))) rfl rfl ?_
                    rintro v74 -
                    refine WL.rd (RD.move rfl) rfl rfl ?_
                    refine WL.efS (EF.callN (.cons rfl .nil) (fun w hS => toIntS_c _ _ _ (by exact RdI.rd hS) (by omega))) rfl rfl ?_
                    rintro v76 -
                    refine WL.efS (EF.callN (.cons rfl (.cons rfl .nil)) (fun w hS => iOnlyBars_c _ _ _ _ _ _ (by exact RdI.rd hS) (by exact RdI.rd hS) (by omega))) rfl rfl ?_
                    rintro v77 -
                    refine WL.efS (EF.allocA) rfl rfl ?_
                    intro b13 _
                    refine WL.efN (EF.storeA rfl rfl rfl rfl) rfl ?_
                    rintro ⟨⟩ -
                    refine WL.nil ?_
                    refine JE.seqN ?_
                    refine J.seq ?_
                    refine J.seq ?_
                    refine J.reg ?_
                    refine WL.rd (RD.loadA rfl rfl) rfl rfl ?_
                    refine WL.rd (RD.loadA rfl rfl) rfl rfl ?_
                    refine WL.efS (EF.callS (.cons rfl (.cons rfl .nil)) (fun w hS => eqGraph_c _ _ _ _ _ _ _ (by exact RdI.rd hS) (by exact RdI.rd hS))) rfl rfl ?_
                    rintro ⟨⟩ -
                    refine WL.rd (RD.notP rfl) rfl rfl ?_
                    refine WL.nil ?_
                    refine JE.seqN ?_
                    refine J.condP rfl (fun hc81 => ?_) (fun hc81 => ?_)
                    ·
                      refine J.seq ?_
                      refine J.reg ?_
                      refine WL.rd (RD.assign rfl) rfl rfl ?_
                      refine WL.nil ?_
                      refine JE.seqN ?_
                      refine J.ret ?_
                      refine JE.ret rfl (.tmp rfl .nil) (fun w hS => ?_)
                      first | exact CS.fin hS rfl | (exfalso; omega) | exact CS.fin hS (by simp_all)
                    ·
                      refine J.skip ?_
                      refine JE.seqN ?_
                      refine J.seq ?_
                      refine J.reg ?_
                      refine WL.rd (RD.assign rfl) rfl rfl ?_
                      refine WL.nil ?_
                      refine JE.seqN ?_
                      refine J.seq ?_
                      refine J.reg ?_
                      refine WL.rd (RD.loadA rfl rfl) rfl rfl ?_
                      refine WL.rd (RD.move rfl) rfl rfl ?_
                      refine WL.efS (EF.callS (.cons rfl (.cons rfl .nil)) (fun w hS => heldGraph_c _ _ _ _ _ (by exact RdI.rd hS) (by omega) (by omega))) rfl rfl ?_
                      rintro ⟨⟩ -
                      refine WL.rd (RD.assign rfl) rfl rfl ?_
                      refine WL.nil ?_
                      refine JE.seqN ?_
                      refine J.seq ?_
                      refine J.seq ?_
                      refine J.reg ?_
                      refine WL.rd (RD.move rfl) rfl rfl ?_
                      refine WL.rd (RD.lss rfl rfl) rfl rfl ?_
                      refine WL.nil ?_
                      refine JE.seqN ?_
                      refine J.condP rfl (fun hc86 => ?_) (fun hc86 => ?_)
                      ·
                        refine J.seq ?_
                        refine J.reg ?_
                        refine WL.rd (RD.assign rfl) rfl rfl ?_
                        refine WL.nil ?_
                        refine JE.seqN ?_
                        refine J.ret ?_
                        refine JE.ret rfl (.tmp rfl .nil) (fun w hS => ?_)
                        first | exact CS.fin hS rfl | (exfalso; omega) | exact CS.fin hS (by simp_all [mkRes])
                      ·
                        refine J.skip ?_
                        refine JE.seqN ?_
                        refine J.seq ?_
                        refine J.seq ?_
                        refine J.reg ?_
                        refine WL.rd (RD.move rfl) rfl rfl ?_
                        refine WL.rd (RD.move rfl) rfl rfl ?_
                        refine WL.rd (RD.neq rfl rfl) rfl rfl ?_
                        refine WL.nil ?_
                        refine JE.seqN ?_
                        refine J.condP rfl (fun hc89 => ?_) (fun hc89 => ?_)
                        ·
                          refine J.seq ?_
                          refine J.reg ?_
                          refine WL.rd (RD.assign rfl) rfl rfl ?_
                          refine WL.nil ?_
                          refine JE.seqN ?_
                          refine J.ret ?_
                          refine JE.ret rfl (.tmp rfl .nil) (fun w hS => ?_)
                          first | exact CS.fin hS rfl | (exfalso; omega) | exact CS.fin hS (by simp_all [mkRes])
                        ·
                          refine J.skip ?_
                          refine JE.seqN ?_
                          refine J.seq ?_
                          refine J.reg ?_
                          refine WL.rd (RD.assign rfl) rfl rfl ?_
                          refine WL.nil ?_
                          refine JE.seqN ?_
                          refine J.ret ?_
                          refine JE.ret rfl (.tmp rfl .nil) (fun w hS => ?_)
                          first | exact CS.fin hS rfl | (exfalso; omega) | exact CS.fin hS (by simp_all [mkRes])

end Go.Proofs.Ytfjmbnlnkmabmaa
