/- Contracts of functions of the program, each walked once; written by a program of our own. -/
import Derived.Test.YtlcijjkbgcllfaaGpM
import Derived.Test.YtlcijjkbgcllfaaMz
namespace Go.Proofs.Ytlcijjkbgcllfaa
open Go Go.RowKit
set_option maxRecDepth 4000

theorem sAddBar_c (n : Int) (v : Value) (xs : List (Int × Int)) (a b : Int) (w : World) (hr : Rd w v 2 (xs.map bv)) (hlx : xs.length ≤ 1048576) :
    CN Try.prog 28 [.agg #[.int .i64 n, v], .int .i64 a, .int .i64 b] w Value (fun _ => True) (fun u => .tuple #[.agg #[.int .i64 n, u], .bool (decide (adOk n xs a b))]) (fun u => [.row u 50 2 ((adL n xs a b).map bv)]) := by
 have hl_xs : xs.length ≤ 9223372036854775807 := (by obtain ⟨_, _, _, hh, _⟩ := hr.shape; simpa using hh)
 refine calls_of_J (mu := (fun _ => False)) (m := [.ro v 2 (xs.map bv)]) (e := [(0, .agg #[.int .i64 n, v]), (1, .int .i64 a), (2, .int .i64 b)]) Try.func28 rfl rfl (.cons rfl (.cons rfl (.cons rfl .nil))) (((St.init _ _).ro0 hr (by decide))) ?_
 refine J.seq ?_
 refine J.reg ?_
 refine WL.efS (EF.boxA rfl) rfl rfl ?_
 intro b3 _
 refine WL.efS (EF.allocA) rfl rfl ?_
 intro b6 _
 refine WL.rd (RD.assign rfl) rfl rfl ?_
 refine WL.nil ?_
 refine JE.seqN ?_
 refine J.seq ?_
 refine J.seq ?_
 refine J.reg ?_
 refine WL.rd (RD.loadA rfl rfl) rfl rfl ?_
 refine WL.efS (EF.callS (.cons rfl .nil) (fun w hS => sIsGraph_c _ _ _ _ (by exact RdI.rd hS))) rfl rfl ?_
 rintro ⟨⟩ -
 refine WL.rd (RD.notP rfl) rfl rfl ?_
 refine WL.rd (RD.move rfl) rfl rfl ?_
 refine WL.caseP 11 rfl (fun hg11 => ?_) (fun hg11 => ?_)
 ·
  refine WL.noS rfl rfl ?_
  refine WL.noS rfl rfl ?_
  refine WL.rd (RD.pickT rfl rfl) rfl rfl ?_
  refine WL.rd (RD.move rfl) rfl rfl ?_
  refine WL.noS rfl rfl ?_
  refine WL.noS rfl rfl ?_
  refine WL.rd (RD.pickT rfl rfl) rfl rfl ?_
  refine WL.rd (RD.move rfl) rfl rfl ?_
  refine WL.noS rfl rfl ?_
  refine WL.noS rfl rfl ?_
  refine WL.noS rfl rfl ?_
  refine WL.noS rfl rfl ?_
  refine WL.rd (RD.pickT rfl rfl) rfl rfl ?_
  refine WL.rd (RD.move rfl) rfl rfl ?_
  refine WL.noS rfl rfl ?_
  refine WL.noS rfl rfl ?_
  refine WL.noS rfl rfl ?_
  refine WL.noS rfl rfl ?_
  refine WL.rd (RD.pickT rfl rfl) rfl rfl ?_
  refine WL.rd (RD.move rfl) rfl rfl ?_
  refine WL.noS rfl rfl ?_
  refine WL.noS rfl rfl ?_
  refine WL.noS rfl rfl ?_
  refine WL.rd (RD.pickT rfl rfl) rfl rfl ?_
  refine WL.rd (RD.move rfl) rfl rfl ?_
  refine WL.noS rfl rfl ?_
  refine WL.noS rfl rfl ?_
  refine WL.noS rfl rfl ?_
  refine WL.noS rfl rfl ?_
  refine WL.rd (RD.pickT rfl rfl) rfl rfl ?_
  refine WL.nil ?_
  refine JE.seqN ?_
  refine J.condT rfl ?_
  refine J.seq ?_
  refine J.reg ?_
  refine WL.rd (RD.loadA rfl rfl) rfl rfl ?_
  refine WL.efS (EF.callN (.cons rfl .nil) (fun w hS => l2Copy_c _ _ _ _ (by exact RdI.rd hS) (by omega))) rfl rfl ?_
  rintro v43 -
  refine WL.efN (EF.storeA rfl rfl rfl rfl) rfl ?_
  rintro ⟨⟩ -
  refine WL.rd (RD.assign rfl) rfl rfl ?_
  refine WL.nil ?_
  refine JE.seqN ?_
  refine J.ret ?_
  refine JE.ret rfl (ResL.flat rfl rfl (.tmp rfl .nil)) (fun w hS => ?_)
  have hno : ¬ adOk n xs a b := (fun h => by obtain ⟨h1, h2, h3, h4, h5⟩ := h; first | exact absurd h1 (by assumption) | omega)
  exact CN.fin hS v43 (by rw [decide_eq_false hno]; rfl) trivial (SubM.row rfl rfl (by unfold adL; rw [if_neg hno]) .nil) (by simp [En.rdb])
 ·
  have hg : isG n xs := Decidable.not_not.1 hg11
  have h12 := hg.1
  have h13 := hg.2.1
  have h14 := hg.2.2.1
  refine WL.rd (RD.move rfl) rfl rfl ?_
  refine WL.rd (RD.lss rfl rfl) rfl rfl ?_
  refine WL.rd (RD.pickF rfl rfl) rfl rfl ?_
  refine WL.rd (RD.move rfl) rfl rfl ?_
  refine WL.caseP 15 rfl (fun hg15 => ?_) (fun hg15 => ?_)
  ·
   refine WL.noS rfl rfl ?_
   refine WL.noS rfl rfl ?_
   refine WL.rd (RD.pickT rfl rfl) rfl rfl ?_
   refine WL.rd (RD.move rfl) rfl rfl ?_
   refine WL.noS rfl rfl ?_
   refine WL.noS rfl rfl ?_
   refine WL.noS rfl rfl ?_
   refine WL.noS rfl rfl ?_
   refine WL.rd (RD.pickT rfl rfl) rfl rfl ?_
   refine WL.rd (RD.move rfl) rfl rfl ?_
   refine WL.noS rfl rfl ?_
   refine WL.noS rfl rfl ?_
   refine WL.noS rfl rfl ?_
   refine WL.noS rfl rfl ?_
   refine WL.rd (RD.pickT rfl rfl) rfl rfl ?_
   refine WL.rd (RD.move rfl) rfl rfl ?_
   refine WL.noS rfl rfl ?_
   refine WL.noS rfl rfl ?_
   refine WL.noS rfl rfl ?_
   refine WL.rd (RD.pickT rfl rfl) rfl rfl ?_
   refine WL.rd (RD.move rfl) rfl rfl ?_
   refine WL.noS rfl rfl ?_
   refine WL.noS rfl rfl ?_
   refine WL.noS rfl rfl ?_
   refine WL.noS rfl rfl ?_
   refine WL.rd (RD.pickT rfl rfl) rfl rfl ?_
   refine WL.nil ?_
   refine JE.seqN ?_
   refine J.condT rfl ?_
   refine J.seq ?_
   refine J.reg ?_
   refine WL.rd (RD.loadA rfl rfl) rfl rfl ?_
   refine WL.efS (EF.callN (.cons rfl .nil) (fun w hS => l2Copy_c _ _ _ _ (by exact RdI.rd hS) (by omega))) rfl rfl ?_
   rintro v43 -
   refine WL.efN (EF.storeA rfl rfl rfl rfl) rfl ?_
   rintro ⟨⟩ -
   refine WL.rd (RD.assign rfl) rfl rfl ?_
   refine WL.nil ?_
   refine JE.seqN ?_
   refine J.ret ?_
   refine JE.ret rfl (ResL.flat rfl rfl (.tmp rfl .nil)) (fun w hS => ?_)
   have hno : ¬ adOk n xs a b := (fun h => by obtain ⟨h1, h2, h3, h4, h5⟩ := h; first | exact absurd h1 (by assumption) | omega)
   exact CN.fin hS v43 (by rw [decide_eq_false hno]; rfl) trivial (SubM.row rfl rfl (by unfold adL; rw [if_neg hno]) .nil) (by simp [En.rdb])
  ·
   refine WL.rd (RD.move rfl) rfl rfl ?_
   refine WL.rd (RD.lss rfl rfl) rfl rfl ?_
   refine WL.rd (RD.pickF rfl rfl) rfl rfl ?_
   refine WL.rd (RD.move rfl) rfl rfl ?_
   refine WL.caseP 19 rfl (fun hg19 => ?_) (fun hg19 => ?_)
   ·
    refine WL.noS rfl rfl ?_
    refine WL.noS rfl rfl ?_
    refine WL.noS rfl rfl ?_
    refine WL.noS rfl rfl ?_
    refine WL.rd (RD.pickT rfl rfl) rfl rfl ?_
    refine WL.rd (RD.move rfl) rfl rfl ?_
    refine WL.noS rfl rfl ?_
    refine WL.noS rfl rfl ?_
    refine WL.noS rfl rfl ?_
    refine WL.noS rfl rfl ?_
    refine WL.rd (RD.pickT rfl rfl) rfl rfl ?_
    refine WL.rd (RD.move rfl) rfl rfl ?_
    refine WL.noS rfl rfl ?_
    refine WL.noS rfl rfl ?_
    refine WL.noS rfl rfl ?_
    refine WL.rd (RD.pickT rfl rfl) rfl rfl ?_
    refine WL.rd (RD.move rfl) rfl rfl ?_
    refine WL.noS rfl rfl ?_
    refine WL.noS rfl rfl ?_
    refine WL.noS rfl rfl ?_
    refine WL.noS rfl rfl ?_
    refine WL.rd (RD.pickT rfl rfl) rfl rfl ?_
    refine WL.nil ?_
    refine JE.seqN ?_
    refine J.condT rfl ?_
    refine J.seq ?_
    refine J.reg ?_
    refine WL.rd (RD.loadA rfl rfl) rfl rfl ?_
    refine WL.efS (EF.callN (.cons rfl .nil) (fun w hS => l2Copy_c _ _ _ _ (by exact RdI.rd hS) (by omega))) rfl rfl ?_
    rintro v43 -
    refine WL.efN (EF.storeA rfl rfl rfl rfl) rfl ?_
    rintro ⟨⟩ -
    refine WL.rd (RD.assign rfl) rfl rfl ?_
    refine WL.nil ?_
    refine JE.seqN ?_
    refine J.ret ?_
    refine JE.ret rfl (ResL.flat rfl rfl (.tmp rfl .nil)) (fun w hS => ?_)
    have hno : ¬ adOk n xs a b := (fun h => by obtain ⟨h1, h2, h3, h4, h5⟩ := h; first | exact absurd h1 (by assumption) | omega)
    exact CN.fin hS v43 (by rw [decide_eq_false hno]; rfl) trivial (SubM.row rfl rfl (by unfold adL; rw [if_neg hno]) .nil) (by simp [En.rdb])
   ·
    refine WL.rd (RD.move rfl) rfl rfl ?_
    refine WL.rd (RD.fieldC rfl rfl) rfl rfl ?_
    refine WL.rd (RD.loadC rfl rfl) rfl rfl ?_
    refine WL.rd (RD.geq rfl rfl) rfl rfl ?_
    refine WL.rd (RD.pickF rfl rfl) rfl rfl ?_
    refine WL.rd (RD.move rfl) rfl rfl ?_
    refine WL.caseP 25 rfl (fun hg25 => ?_) (fun hg25 => ?_)
    ·
     refine WL.noS rfl rfl ?_
     refine WL.noS rfl rfl ?_
     refine WL.noS rfl rfl ?_
     refine WL.noS rfl rfl ?_
     refine WL.rd (RD.pickT rfl rfl) rfl rfl ?_
     refine WL.rd (RD.move rfl) rfl rfl ?_
     refine WL.noS rfl rfl ?_
     refine WL.noS rfl rfl ?_
     refine WL.noS rfl rfl ?_
     refine WL.rd (RD.pickT rfl rfl) rfl rfl ?_
     refine WL.rd (RD.move rfl) rfl rfl ?_
     refine WL.noS rfl rfl ?_
     refine WL.noS rfl rfl ?_
     refine WL.noS rfl rfl ?_
     refine WL.noS rfl rfl ?_
     refine WL.rd (RD.pickT rfl rfl) rfl rfl ?_
     refine WL.nil ?_
     refine JE.seqN ?_
     refine J.condT rfl ?_
     refine J.seq ?_
     refine J.reg ?_
     refine WL.rd (RD.loadA rfl rfl) rfl rfl ?_
     refine WL.efS (EF.callN (.cons rfl .nil) (fun w hS => l2Copy_c _ _ _ _ (by exact RdI.rd hS) (by omega))) rfl rfl ?_
     rintro v43 -
     refine WL.efN (EF.storeA rfl rfl rfl rfl) rfl ?_
     rintro ⟨⟩ -
     refine WL.rd (RD.assign rfl) rfl rfl ?_
     refine WL.nil ?_
     refine JE.seqN ?_
     refine J.ret ?_
     refine JE.ret rfl (ResL.flat rfl rfl (.tmp rfl .nil)) (fun w hS => ?_)
     have hno : ¬ adOk n xs a b := (fun h => by obtain ⟨h1, h2, h3, h4, h5⟩ := h; first | exact absurd h1 (by assumption) | omega)
     exact CN.fin hS v43 (by rw [decide_eq_false hno]; rfl) trivial (SubM.row rfl rfl (by unfold adL; rw [if_neg hno]) .nil) (by simp [En.rdb])
    ·
     refine WL.rd (RD.move rfl) rfl rfl ?_
     refine WL.rd (RD.fieldC rfl rfl) rfl rfl ?_
     refine WL.rd (RD.loadC rfl rfl) rfl rfl ?_
     refine WL.rd (RD.geq rfl rfl) rfl rfl ?_
     refine WL.rd (RD.pickF rfl rfl) rfl rfl ?_
     refine WL.rd (RD.move rfl) rfl rfl ?_
     refine WL.caseP 31 rfl (fun hg31 => ?_) (fun hg31 => ?_)
     ·
      refine WL.noS rfl rfl ?_
      refine WL.noS rfl rfl ?_
      refine WL.noS rfl rfl ?_
      refine WL.rd (RD.pickT rfl rfl) rfl rfl ?_
      refine WL.rd (RD.move rfl) rfl rfl ?_
      refine WL.noS rfl rfl ?_
      refine WL.noS rfl rfl ?_
      refine WL.noS rfl rfl ?_
      refine WL.noS rfl rfl ?_
      refine WL.rd (RD.pickT rfl rfl) rfl rfl ?_
      refine WL.nil ?_
      refine JE.seqN ?_
      refine J.condT rfl ?_
      refine J.seq ?_
      refine J.reg ?_
      refine WL.rd (RD.loadA rfl rfl) rfl rfl ?_
      refine WL.efS (EF.callN (.cons rfl .nil) (fun w hS => l2Copy_c _ _ _ _ (by exact RdI.rd hS) (by omega))) rfl rfl ?_
      rintro v43 -
      refine WL.efN (EF.storeA rfl rfl rfl rfl) rfl ?_
      rintro ⟨⟩ -
      refine WL.rd (RD.assign rfl) rfl rfl ?_
      refine WL.nil ?_
      refine JE.seqN ?_
      refine J.ret ?_
      refine JE.ret rfl (ResL.flat rfl rfl (.tmp rfl .nil)) (fun w hS => ?_)
      have hno : ¬ adOk n xs a b := (fun h => by obtain ⟨h1, h2, h3, h4, h5⟩ := h; first | exact absurd h1 (by assumption) | omega)
      exact CN.fin hS v43 (by rw [decide_eq_false hno]; rfl) trivial (SubM.row rfl rfl (by unfold adL; rw [if_neg hno]) .nil) (by simp [En.rdb])
     ·
      refine WL.rd (RD.move rfl) rfl rfl ?_
      refine WL.rd (RD.move rfl) rfl rfl ?_
      refine WL.rd (RD.eql rfl rfl) rfl rfl ?_
      refine WL.rd (RD.pickF rfl rfl) rfl rfl ?_
      refine WL.rd (RD.move rfl) rfl rfl ?_
      refine WL.caseP 36 rfl (fun hg36 => ?_) (fun hg36 => ?_)
      ·
       refine WL.noS rfl rfl ?_
       refine WL.noS rfl rfl ?_
       refine WL.noS rfl rfl ?_
       refine WL.noS rfl rfl ?_
       refine WL.rd (RD.pickT rfl rfl) rfl rfl ?_
       refine WL.nil ?_
       refine JE.seqN ?_
       refine J.condT rfl ?_
       refine J.seq ?_
       refine J.reg ?_
       refine WL.rd (RD.loadA rfl rfl) rfl rfl ?_
       refine WL.efS (EF.callN (.cons rfl .nil) (fun w hS => l2Copy_c _ _ _ _ (by exact RdI.rd hS) (by omega))) rfl rfl ?_
       rintro v43 -
       refine WL.efN (EF.storeA rfl rfl rfl rfl) rfl ?_
       rintro ⟨⟩ -
       refine WL.rd (RD.assign rfl) rfl rfl ?_
       refine WL.nil ?_
       refine JE.seqN ?_
       refine J.ret ?_
       refine JE.ret rfl (ResL.flat rfl rfl (.tmp rfl .nil)) (fun w hS => ?_)
       have hno : ¬ adOk n xs a b := (fun h => by obtain ⟨h1, h2, h3, h4, h5⟩ := h; first | exact absurd h1 (by assumption) | omega)
       exact CN.fin hS v43 (by rw [decide_eq_false hno]; rfl) trivial (SubM.row rfl rfl (by unfold adL; rw [if_neg hno]) .nil) (by simp [En.rdb])
      ·
       refine WL.rd (RD.fieldC rfl rfl) rfl rfl ?_
       refine WL.rd (RD.loadC rfl rfl) rfl rfl ?_
       refine WL.rd (RD.lenR rfl) rfl rfl ?_
       refine WL.rd (RD.geq rfl rfl) rfl rfl ?_
       refine WL.rd (RD.pickF rfl rfl) rfl rfl ?_
       refine WL.nil ?_
       refine JE.seqN ?_
       refine J.condP rfl (fun hc41 => ?_) (fun hc41 => ?_)
       ·
        refine J.seq ?_
        refine J.reg ?_
        refine WL.rd (RD.loadA rfl rfl) rfl rfl ?_
        refine WL.efS (EF.callN (.cons rfl .nil) (fun w hS => l2Copy_c _ _ _ _ (by exact RdI.rd hS) (by omega))) rfl rfl ?_
        rintro v43 -
        refine WL.efN (EF.storeA rfl rfl rfl rfl) rfl ?_
        rintro ⟨⟩ -
        refine WL.rd (RD.assign rfl) rfl rfl ?_
        refine WL.nil ?_
        refine JE.seqN ?_
        refine J.ret ?_
        refine JE.ret rfl (ResL.flat rfl rfl (.tmp rfl .nil)) (fun w hS => ?_)
        have hno : ¬ adOk n xs a b := (fun h => by obtain ⟨h1, h2, h3, h4, h5⟩ := h; first | exact absurd h1 (by assumption) | omega)
        exact CN.fin hS v43 (by rw [decide_eq_false hno]; rfl) trivial (SubM.row rfl rfl (by unfold adL; rw [if_neg hno]) .nil) (by simp [En.rdb])
       ·
        refine J.skip ?_
        refine JE.seqN ?_
        refine J.seq ?_
        refine J.reg ?_
        refine WL.rd (RD.loadA rfl rfl) rfl rfl ?_
        refine WL.rd (RD.move rfl) rfl rfl ?_
        refine WL.rd (RD.move rfl) rfl rfl ?_
        refine WL.rd (RD.min rfl rfl) rfl rfl ?_
        refine WL.rd (RD.move rfl) rfl rfl ?_
        refine WL.rd (RD.move rfl) rfl rfl ?_
        refine WL.rd (RD.max rfl rfl) rfl rfl ?_
        refine WL.rd (RD.build (n := 2) (.cons rfl (.cons rfl .nil)) rfl) rfl rfl ?_
        refine WL.efS (EF.callN (.cons rfl (.cons rfl .nil)) (fun w hS => l2Put_c n _ xs (min a b, max a b) _ (by exact RdI.rd hS) (by omega))) rfl rfl ?_
        rintro v52 -
        refine WL.efN (EF.storeA rfl rfl rfl rfl) rfl ?_
        rintro ⟨⟩ -
        refine WL.rd (RD.assign rfl) rfl rfl ?_
        refine WL.nil ?_
        refine JE.seqN ?_
        refine J.ret ?_
        refine JE.ret rfl (ResL.flat rfl rfl (.tmp rfl .nil)) (fun w hS => ?_)
        have hyes : adOk n xs a b := ⟨hg, by omega, by omega, by omega, by omega⟩
        exact CN.fin hS v52 (by rw [decide_eq_true hyes]; rfl) trivial (SubM.row rfl rfl (by unfold adL; rw [if_pos hyes]) .nil) (by simp [En.rdb])

end Go.Proofs.Ytlcijjkbgcllfaa
