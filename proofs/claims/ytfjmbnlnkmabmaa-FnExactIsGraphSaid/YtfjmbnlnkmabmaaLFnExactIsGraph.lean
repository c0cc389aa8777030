/- Contracts of functions of the program, each walked once; written by a program of our own. -/
import Derived.Test.YtfjmbnlnkmabmaaGc
import Derived.Test.YtfjmbnlnkmabmaaSo
namespace Go.Proofs.Ytfjmbnlnkmabmaa
open Go Go.RowKit
set_option maxRecDepth 4000

theorem law_c (n : Int) (v : Value) (xs : List (Int × Int)) (w : World) (_hn : -9223372036854775808 ≤ n ∧ n ≤ 9223372036854775807) (hrn : Rd w v 2 (xs.map bv)) (_hbn : ∀ x ∈ xs, InI64 x.1 ∧ InI64 x.2) :
    CS Try.prog 7 [.agg #[.int .i64 n, v]] w (.bool true) := by
  refine calls_of_J (mu := (fun _ => False)) (m := [.ro v 2 (xs.map bv)]) (e := [(0, .agg #[.int .i64 n, v])]) Try.func7 rfl rfl (.cons rfl .nil) (((St.init _ _).ro0 hrn (by decide))) ?_
  refine J.seq ?_
  refine J.reg ?_
  refine WL.efS (EF.boxA rfl) rfl rfl ?_
  intro b1 _
  refine WL.rd (RD.assign rfl) rfl rfl ?_
  refine WL.nil ?_
  refine JE.seqN ?_
  refine J.seq ?_
  refine J.reg ?_
  refine WL.rd (RD.assign rfl) rfl rfl ?_
  refine WL.nil ?_
  refine JE.seqN ?_
  refine J.seq ?_
  refine J.reg ?_
  refine WL.rd (RD.loadA rfl rfl) rfl rfl ?_
  refine WL.rd (RD.move rfl) rfl rfl ?_
  refine WL.efS (EF.callS (.cons rfl (.cons rfl .nil)) (fun w hS => szGraph_c _ _ _ _ _ (by exact RdI.rd hS) (by omega))) rfl rfl ?_
  rintro ⟨⟩ -
  refine WL.rd (RD.assign rfl) rfl rfl ?_
  refine WL.nil ?_
  refine JE.seqN ?_
  refine J.seq ?_
  refine J.seq ?_
  refine J.reg ?_
  refine WL.rd (RD.move rfl) rfl rfl ?_
  refine WL.rd (RD.lss rfl rfl) rfl rfl ?_
  refine WL.nil ?_
  refine JE.seqN ?_
  refine J.condP rfl (fun hc11 => ?_) (fun hc11 => ?_)
  ·
    refine J.seq ?_
    refine J.reg ?_
    refine WL.rd (RD.assign rfl) rfl rfl ?_
    refine WL.nil ?_
    refine JE.seqN ?_
    refine J.ret ?_
    refine JE.ret rfl (.tmp rfl .nil) (fun w hS => ?_)
    first | exact CS.fin hS rfl | (exfalso; omega) | exact CS.fin hS (by simp_all [mkRes])
  ·
    have hlxs : xs.length ≤ 1048576 := by unfold szf at hc11; split at hc11 <;> omega
    have hzxs : szf 1048576 xs.length = 1048576 - (xs.length : Int) := by unfold szf; rw [if_neg (by omega)]
    refine J.skip ?_
    refine JE.seqN ?_
    refine J.seq ?_
    refine J.reg ?_
    refine WL.rd (RD.loadA rfl rfl) rfl rfl ?_
    refine WL.efS (EF.callN (.cons rfl .nil) (fun w hS => toGraph_c _ _ _ _ (by exact RdI.rd hS) (by omega))) rfl rfl ?_
    rintro v13 -
    refine WL.efS (EF.callS (.cons rfl .nil) (fun w hS => sIsGraph_c _ _ _ _ (by exact RdI.rd hS))) rfl rfl ?_
    rintro ⟨⟩ -
    refine WL.rd (RD.assign rfl) rfl rfl ?_
    refine WL.nil ?_
    refine JE.seqN ?_
    refine J.seq ?_
    refine J.reg ?_
    refine WL.rd (RD.loadA rfl rfl) rfl rfl ?_
    refine WL.efS (EF.callN (.cons rfl .nil) (fun w hS => toGraph_c _ _ _ _ (by exact RdI.rd hS) (by omega))) rfl rfl ?_
    rintro v16 -
    refine WL.efS (EF.allocA) rfl rfl ?_
    intro b5 _
    refine WL.efN (EF.storeA rfl rfl rfl rfl) rfl ?_
    rintro ⟨⟩ -
    refine WL.nil ?_
    refine JE.seqN ?_
    refine J.seq ?_
    refine J.reg ?_
    refine WL.rd (RD.loadA rfl rfl) rfl rfl ?_
    refine WL.efS (EF.callS (.cons rfl .nil) (fun w hS => iIsGraph_c _ _ _ _ (by exact RdI.rd hS))) rfl rfl ?_
    rintro ⟨⟩ -
    refine WL.rd (RD.assign rfl) rfl rfl ?_
    refine WL.nil ?_
    refine JE.seqN ?_
    refine J.seq ?_
    refine J.seq ?_
    refine J.reg ?_
    refine WL.rd (RD.move rfl) rfl rfl ?_
    refine WL.rd (RD.move rfl) rfl rfl ?_
    refine WL.rd (RD.neqB rfl rfl) rfl rfl ?_
    refine WL.nil ?_
    refine JE.seqN ?_
    refine J.cond rfl (fun hc21 => ?_) (fun hc21 => ?_)
    ·
      refine J.seq ?_
      refine J.reg ?_
      refine WL.rd (RD.assign rfl) rfl rfl ?_
      refine WL.nil ?_
      refine JE.seqN ?_
      refine J.ret ?_
      refine JE.ret rfl (.tmp rfl .nil) (fun w hS => ?_)
      first | exact CS.fin hS rfl | (exfalso; omega) | exact CS.fin hS (by simp_all)
    ·
      refine J.skip ?_
      refine JE.seqN ?_
      refine J.seq ?_
      refine J.seq ?_
      refine J.anyAll [] ?_
      refine WA.take 0 rfl (RD.loadA rfl rfl) rfl (by kernel_rfl) rfl ?_
      refine WA.take 1 rfl (RD.loadA rfl rfl) rfl (by kernel_rfl) rfl ?_
      refine WA.one (i := 2) (by kernel_rfl) ?_
      refine WAi.efS rfl (EF.callN (.cons rfl .nil) (fun w hS => toGraph_c _ _ _ _ (by exact RdI.rd hS) (by omega))) rfl rfl (fun _ => SubI.sub) ?_
      rintro v24 -
      refine WA.one (i := 3) (by kernel_rfl) ?_
      refine WAi.efS rfl (EF.callS (.cons rfl (.cons rfl .nil)) (fun w hS => eqGraph_c _ _ _ _ _ _ _ (by exact RdI.rd hS) (by exact RdI.rd hS))) rfl rfl (fun _ => SubI.sub) ?_
      rintro ⟨⟩ -
      refine WA.takeP 4 rfl (RDP.of fun _ => RD.notP rfl) rfl (by kernel_rfl) rfl ?_
      refine WA.done (by kernel_rfl) ?_
      refine JE.seqN ?_
      refine J.condP rfl (fun hc26 => ?_) (fun hc26 => ?_)
      ·
        refine J.seq ?_
        refine J.reg ?_
        refine WL.rd (RD.assign rfl) rfl rfl ?_
        refine WL.nil ?_
        refine JE.seqN ?_
        refine J.ret ?_
        refine JE.ret rfl (.tmp rfl .nil) (fun w hS => ?_)
        first | exact CS.fin hS rfl | (exfalso; omega) | exact CS.fin hS (by simp_all)
      ·
        refine J.skip ?_
        refine JE.seqN ?_
        refine J.seq ?_
        refine J.reg ?_
        refine WL.rd (RD.assign rfl) rfl rfl ?_
        refine WL.nil ?_
        refine JE.seqN ?_
        refine J.ret ?_
        refine JE.ret rfl (.tmp rfl .nil) (fun w hS => ?_)
        first | exact CS.fin hS rfl | (exfalso; omega) | exact CS.fin hS (by simp_all [mkRes])

end Go.Proofs.Ytfjmbnlnkmabmaa
