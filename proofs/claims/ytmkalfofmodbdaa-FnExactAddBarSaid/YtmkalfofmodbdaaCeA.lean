/- Contracts of functions of the program, each walked once; written by a program of our own. -/
import Derived.Test.YtmkalfofmodbdaaTy
import Derived.Test.YtmkalfofmodbdaaSb
import Derived.Test.YtmkalfofmodbdaaMe
namespace Go.Proofs.Ytmkalfofmodbdaa
open Go Go.RowKit
set_option maxRecDepth 4000

theorem l1In_c (x lo hi : Int) (w : World) :
    CS Try.prog 25 [.int .i64 x, .int .i64 lo, .int .i64 hi] w (.bool (decide (lo ≤ x ∧ x ≤ hi))) := by
 refine calls_of_J (mu := (fun _ => False)) (m := []) (e := [(0, .int .i64 x), (1, .int .i64 lo), (2, .int .i64 hi)]) Try.func25 rfl rfl (.cons rfl (.cons rfl (.cons rfl .nil))) (St.init _ _) ?_
 refine J.seq ?_
 refine J.reg ?_
 refine WL.rd (RD.assign rfl) rfl rfl ?_
 refine WL.nil ?_
 refine JE.seqN ?_
 refine J.seq ?_
 refine J.reg ?_
 refine WL.rd (RD.move rfl) rfl rfl ?_
 refine WL.rd (RD.move rfl) rfl rfl ?_
 refine WL.rd (RD.geq rfl rfl) rfl rfl ?_
 refine WL.rd (RD.move rfl) rfl rfl ?_
 refine WL.caseP 10 rfl (fun hg10 => ?_) (fun hg10 => ?_)
 ·
  refine WL.rd (RD.move rfl) rfl rfl ?_
  refine WL.rd (RD.move rfl) rfl rfl ?_
  refine WL.rd (RD.leq rfl rfl) rfl rfl ?_
  refine WL.rd (RD.pickT rfl rfl) rfl rfl ?_
  refine WL.rd (RD.assign rfl) rfl rfl ?_
  refine WL.nil ?_
  refine JE.seqN ?_
  refine J.ret ?_
  refine JE.ret rfl (.tmp rfl .nil) (fun w hS => ?_)
  first | exact CS.fin hS (mk_dec (by omega)) | exact CS.fin hS (mk_true (by omega)) | exact CS.fin hS (mk_false (by omega))
 ·
  refine WL.noS rfl rfl ?_
  refine WL.noS rfl rfl ?_
  refine WL.noS rfl rfl ?_
  refine WL.rd (RD.pickF rfl rfl) rfl rfl ?_
  refine WL.rd (RD.assign rfl) rfl rfl ?_
  refine WL.nil ?_
  refine JE.seqN ?_
  refine J.ret ?_
  refine JE.ret rfl (.tmp rfl .nil) (fun w hS => ?_)
  first | exact CS.fin hS (mk_dec (by omega)) | exact CS.fin hS (mk_true (by omega)) | exact CS.fin hS (mk_false (by omega))
theorem within_c (x lo hi : Int) (w : World) :
    CS Try.prog 28 [.int .i64 x, .int .i64 lo, .int .i64 hi] w (.bool (decide (lo ≤ x ∧ x ≤ hi))) := by
 refine calls_of_J (mu := (fun _ => False)) (m := []) (e := [(0, .int .i64 x), (1, .int .i64 lo), (2, .int .i64 hi)]) Try.func28 rfl rfl (.cons rfl (.cons rfl (.cons rfl .nil))) (St.init _ _) ?_
 refine J.seq ?_
 refine J.reg ?_
 refine WL.rd (RD.assign rfl) rfl rfl ?_
 refine WL.nil ?_
 refine JE.seqN ?_
 refine J.seq ?_
 refine J.reg ?_
 refine WL.rd (RD.move rfl) rfl rfl ?_
 refine WL.rd (RD.move rfl) rfl rfl ?_
 refine WL.rd (RD.geq rfl rfl) rfl rfl ?_
 refine WL.rd (RD.move rfl) rfl rfl ?_
 refine WL.caseP 10 rfl (fun hg10 => ?_) (fun hg10 => ?_)
 ·
  refine WL.rd (RD.move rfl) rfl rfl ?_
  refine WL.rd (RD.move rfl) rfl rfl ?_
  refine WL.rd (RD.leq rfl rfl) rfl rfl ?_
  refine WL.rd (RD.pickT rfl rfl) rfl rfl ?_
  refine WL.rd (RD.assign rfl) rfl rfl ?_
  refine WL.nil ?_
  refine JE.seqN ?_
  refine J.ret ?_
  refine JE.ret rfl (.tmp rfl .nil) (fun w hS => ?_)
  first | exact CS.fin hS (mk_dec (by omega)) | exact CS.fin hS (mk_true (by omega)) | exact CS.fin hS (mk_false (by omega))
 ·
  refine WL.noS rfl rfl ?_
  refine WL.noS rfl rfl ?_
  refine WL.noS rfl rfl ?_
  refine WL.rd (RD.pickF rfl rfl) rfl rfl ?_
  refine WL.rd (RD.assign rfl) rfl rfl ?_
  refine WL.nil ?_
  refine JE.seqN ?_
  refine J.ret ?_
  refine JE.ret rfl (.tmp rfl .nil) (fun w hS => ?_)
  first | exact CS.fin hS (mk_dec (by omega)) | exact CS.fin hS (mk_true (by omega)) | exact CS.fin hS (mk_false (by omega))

end Go.Proofs.Ytmkalfofmodbdaa
