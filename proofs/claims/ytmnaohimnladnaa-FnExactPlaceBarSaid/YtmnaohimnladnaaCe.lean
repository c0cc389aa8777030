/- Contracts of functions of the program, each walked once; written by a program of our own. -/
import Derived.Test.YtmnaohimnladnaaTy
import Derived.Test.YtmnaohimnladnaaSb
import Derived.Test.YtmnaohimnladnaaMe
namespace Go.Proofs.Ytmnaohimnladnaa
open Go Go.RowKit
set_option maxRecDepth 4000

theorem l1In_c (x lo hi : Int) (w : World) :
    CS Try.prog 82 [.int .i64 x, .int .i64 lo, .int .i64 hi] w (.bool (decide (lo ≤ x ∧ x ≤ hi))) := by
  refine calls_of_J (mu := (fun _ => False)) (m := []) (e := [(0, .int .i64 x), (1, .int .i64 lo), (2, .int .i64 hi)]) Try.func82 rfl rfl (.cons rfl (.cons rfl (.cons rfl .nil))) (St.init _ _) ?_
  refine J.seq ?_
  refine J.reg ?_
  refine WL.rd (RD.assign rfl) rfl rfl ?_
  refine WL.nil ?_
  refine JE.seqN ?_
  refine J.seq ?_
  refine J.reg ?_
  refine WL.rd (RD.move rfl) rfl rfl ?_
  refine WL.rd (RD.move rfl) rfl rfl ?_
  refine WL.rd (RD.geq rfl rfl) rfl rfl ?_
  refine WL.rd (RD.move rfl) rfl rfl ?_
  refine WL.caseP 10 rfl (fun hg10 => ?_) (fun hg10 => ?_)
  ·
    refine WL.rd (RD.move rfl) rfl rfl ?_
    refine WL.rd (RD.move rfl) rfl rfl ?_
    refine WL.rd (RD.leq rfl rfl) rfl rfl ?_
    refine WL.rd (RD.pickT rfl rfl) rfl rfl ?_
    refine WL.rd (RD.assign rfl) rfl rfl ?_
    refine WL.nil ?_
    refine JE.seqN ?_
    refine J.ret ?_
    refine JE.ret rfl (.tmp rfl .nil) (fun w hS => ?_)
    first | exact CS.fin hS (mk_dec (by omega)) | exact CS.fin hS (mk_true (by omega)) | exact CS.fin hS (mk_false (by omega))
  ·
    refine WL.noS rfl rfl ?_
    refine WL.noS rfl rfl ?_
    refine WL.noS rfl rfl ?_
    refine WL.rd (RD.pickF rfl rfl) rfl rfl ?_
    refine WL.rd (RD.assign rfl) rfl rfl ?_
    refine WL.nil ?_
    refine JE.seqN ?_
    refine J.ret ?_
    refine JE.ret rfl (.tmp rfl .nil) (fun w hS => ?_)
    first | exact CS.fin hS (mk_dec (by omega)) | exact CS.fin hS (mk_true (by omega)) | exact CS.fin hS (mk_false (by omega))
theorem within_c (x lo hi : Int) (w : World) :
    CS Try.prog 57 [.int .i64 x, .int .i64 lo, .int .i64 hi] w (.bool (decide (lo ≤ x ∧ x ≤ hi))) := by
  refine calls_of_J (mu := (fun _ => False)) (m := []) (e := [(0, .int .i64 x), (1, .int .i64 lo), (2, .int .i64 hi)]) Try.func57 rfl rfl (.cons rfl (.cons rfl (.cons rfl .nil))) (St.init _ _) ?_
  refine J.seq ?_
  refine J.reg ?_
  refine WL.rd (RD.assign rfl) rfl rfl ?_
  refine WL.nil ?_
  refine JE.seqN ?_
  refine J.seq ?_
  refine J.reg ?_
  refine WL.rd (RD.move rfl) rfl rfl ?_
  refine WL.rd (RD.move rfl) rfl rfl ?_
  refine WL.rd (RD.geq rfl rfl) rfl rfl ?_
  refine WL.rd (RD.move rfl) rfl rfl ?_
  refine WL.caseP 10 rfl (fun hg10 => ?_) (fun hg10 => ?_)
  ·
    refine WL.rd (RD.move rfl) rfl rfl ?_
    refine WL.rd (RD.move rfl) rfl rfl ?_
    refine WL.rd (RD.leq rfl rfl) rfl rfl ?_
    refine WL.rd (RD.pickT rfl rfl) rfl rfl ?_
    refine WL.rd (RD.assign rfl) rfl rfl ?_
    refine WL.nil ?_
    refine JE.seqN ?_
    refine J.ret ?_
    refine JE.ret rfl (.tmp rfl .nil) (fun w hS => ?_)
    first | exact CS.fin hS (mk_dec (by omega)) | exact CS.fin hS (mk_true (by omega)) | exact CS.fin hS (mk_false (by omega))
  ·
    refine WL.noS rfl rfl ?_
    refine WL.noS rfl rfl ?_
    refine WL.noS rfl rfl ?_
    refine WL.rd (RD.pickF rfl rfl) rfl rfl ?_
    refine WL.rd (RD.assign rfl) rfl rfl ?_
    refine WL.nil ?_
    refine JE.seqN ?_
    refine J.ret ?_
    refine JE.ret rfl (.tmp rfl .nil) (fun w hS => ?_)
    first | exact CS.fin hS (mk_dec (by omega)) | exact CS.fin hS (mk_true (by omega)) | exact CS.fin hS (mk_false (by omega))
theorem sIsRange_c (k l : Int) (w : World) (hl : -9223372036854775808 ≤ l ∧ l ≤ 9223372036854775807) :
    CS Try.prog 53 [.int .i64 k, .int .i64 l] w (.bool (decide (1 ≤ k ∧ k ≤ 3 ∧ 0 ≤ l ∧ l < 2 * k))) := by
  refine calls_of_J (mu := (fun _ => False)) (m := []) (e := [(0, .int .i64 k), (1, .int .i64 l)]) Try.func53 rfl rfl (.cons rfl (.cons rfl .nil)) (St.init _ _) ?_
  refine J.seq ?_
  refine J.reg ?_
  refine WL.rd (RD.assign rfl) rfl rfl ?_
  refine WL.nil ?_
  refine JE.seqN ?_
  refine J.seq ?_
  refine J.reg ?_
  refine WL.rd (RD.move rfl) rfl rfl ?_
  refine WL.efS (EF.callS (.cons rfl (.cons rfl (.cons rfl .nil))) (fun w hS => l1In_c _ _ _ _)) rfl rfl ?_
  rintro ⟨⟩ -
  refine WL.rd (RD.move rfl) rfl rfl ?_
  refine WL.caseP 7 rfl (fun hg7 => ?_) (fun hg7 => ?_)
  ·
    refine WL.rd (RD.move rfl) rfl rfl ?_
    refine WL.rd (RD.geq rfl rfl) rfl rfl ?_
    refine WL.rd (RD.pickT rfl rfl) rfl rfl ?_
    refine WL.rd (RD.move rfl) rfl rfl ?_
    refine WL.caseP 11 rfl (fun hg11 => ?_) (fun hg11 => ?_)
    ·
      refine WL.rd (RD.move rfl) rfl rfl ?_
      refine WL.rd (RD.move rfl) rfl rfl ?_
      refine WL.rd (RD.mul rfl rfl (by omega) (by omega)) rfl rfl ?_
      refine WL.rd (RD.lss rfl rfl) rfl rfl ?_
      refine WL.rd (RD.pickT rfl rfl) rfl rfl ?_
      refine WL.rd (RD.assign rfl) rfl rfl ?_
      refine WL.nil ?_
      refine JE.seqN ?_
      refine J.ret ?_
      refine JE.ret rfl (.tmp rfl .nil) (fun w hS => ?_)
      first | exact CS.fin hS (mk_dec (by omega)) | exact CS.fin hS (mk_true (by omega)) | exact CS.fin hS (mk_false (by omega))
    ·
      refine WL.noS rfl rfl ?_
      refine WL.noS rfl rfl ?_
      refine WL.noS rfl rfl ?_
      refine WL.noS rfl rfl ?_
      refine WL.rd (RD.pickF rfl rfl) rfl rfl ?_
      refine WL.rd (RD.assign rfl) rfl rfl ?_
      refine WL.nil ?_
      refine JE.seqN ?_
      refine J.ret ?_
      refine JE.ret rfl (.tmp rfl .nil) (fun w hS => ?_)
      first | exact CS.fin hS (mk_dec (by omega)) | exact CS.fin hS (mk_true (by omega)) | exact CS.fin hS (mk_false (by omega))
  ·
    refine WL.noS rfl rfl ?_
    refine WL.noS rfl rfl ?_
    refine WL.rd (RD.pickF rfl rfl) rfl rfl ?_
    refine WL.rd (RD.move rfl) rfl rfl ?_
    refine WL.noS rfl rfl ?_
    refine WL.noS rfl rfl ?_
    refine WL.noS rfl rfl ?_
    refine WL.noS rfl rfl ?_
    refine WL.rd (RD.pickF rfl rfl) rfl rfl ?_
    refine WL.rd (RD.assign rfl) rfl rfl ?_
    refine WL.nil ?_
    refine JE.seqN ?_
    refine J.ret ?_
    refine JE.ret rfl (.tmp rfl .nil) (fun w hS => ?_)
    first | exact CS.fin hS (mk_dec (by omega)) | exact CS.fin hS (mk_true (by omega)) | exact CS.fin hS (mk_false (by omega))
theorem iIsRange_c (k l : Int) (w : World) (hl : -9223372036854775808 ≤ l ∧ l ≤ 9223372036854775807) :
    CS Try.prog 47 [.int .i64 k, .int .i64 l] w (.bool (decide (1 ≤ k ∧ k ≤ 3 ∧ 0 ≤ l ∧ l < 2 * k))) := by
  refine calls_of_J (mu := (fun _ => False)) (m := []) (e := [(0, .int .i64 k), (1, .int .i64 l)]) Try.func47 rfl rfl (.cons rfl (.cons rfl .nil)) (St.init _ _) ?_
  refine J.seq ?_
  refine J.reg ?_
  refine WL.rd (RD.assign rfl) rfl rfl ?_
  refine WL.nil ?_
  refine JE.seqN ?_
  refine J.seq ?_
  refine J.reg ?_
  refine WL.rd (RD.move rfl) rfl rfl ?_
  refine WL.efS (EF.callS (.cons rfl (.cons rfl (.cons rfl .nil))) (fun w hS => within_c _ _ _ _)) rfl rfl ?_
  rintro ⟨⟩ -
  refine WL.rd (RD.move rfl) rfl rfl ?_
  refine WL.caseP 7 rfl (fun hg7 => ?_) (fun hg7 => ?_)
  ·
    refine WL.rd (RD.move rfl) rfl rfl ?_
    refine WL.rd (RD.move rfl) rfl rfl ?_
    refine WL.rd (RD.mul rfl rfl (by omega) (by omega)) rfl rfl ?_
    refine WL.rd (RD.sub rfl rfl (by omega) (by omega)) rfl rfl ?_
    refine WL.efS (EF.callS (.cons rfl (.cons rfl (.cons rfl .nil))) (fun w hS => within_c _ _ _ _)) rfl rfl ?_
    rintro ⟨⟩ -
    refine WL.rd (RD.pickT rfl rfl) rfl rfl ?_
    refine WL.rd (RD.assign rfl) rfl rfl ?_
    refine WL.nil ?_
    refine JE.seqN ?_
    refine J.ret ?_
    refine JE.ret rfl (.tmp rfl .nil) (fun w hS => ?_)
    first | exact CS.fin hS (mk_dec (by omega)) | exact CS.fin hS (mk_true (by omega)) | exact CS.fin hS (mk_false (by omega))
  ·
    refine WL.noS rfl rfl ?_
    refine WL.noS rfl rfl ?_
    refine WL.noS rfl rfl ?_
    refine WL.noS rfl rfl ?_
    refine WL.noS rfl rfl ?_
    refine WL.rd (RD.pickF rfl rfl) rfl rfl ?_
    refine WL.rd (RD.assign rfl) rfl rfl ?_
    refine WL.nil ?_
    refine JE.seqN ?_
    refine J.ret ?_
    refine JE.ret rfl (.tmp rfl .nil) (fun w hS => ?_)
    first | exact CS.fin hS (mk_dec (by omega)) | exact CS.fin hS (mk_true (by omega)) | exact CS.fin hS (mk_false (by omega))

end Go.Proofs.Ytmnaohimnladnaa
