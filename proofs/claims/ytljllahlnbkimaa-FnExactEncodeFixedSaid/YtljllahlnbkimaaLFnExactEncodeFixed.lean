/- Contracts of functions of the program, each walked once; written by a program of our own. -/
import Derived.Test.YtljllahlnbkimaaCf
namespace Go.Proofs.Ytljllahlnbkimaa
open Go Go.RowKit

theorem law_c (n width : Int) (w : World) (hn : -9223372036854775808 ≤ n ∧ n ≤ 9223372036854775807) (hwi : -9223372036854775808 ≤ width ∧ width ≤ 9223372036854775807) :
    CS Try.prog 7 [.int .i64 n, .int .i64 width] w (.bool true) := by
  refine calls_of_J (mu := (fun _ => False)) (m := []) (e := [(0, .int .i64 n), (1, .int .i64 width)]) Try.func7 rfl rfl (.cons rfl (.cons rfl .nil)) (St.init _ _) ?_
  refine J.seq ?_
  refine J.reg ?_
  refine WL.rd (RD.assign rfl) rfl rfl ?_
  refine WL.nil ?_
  refine JE.seqN ?_
  refine J.seq ?_
  refine J.reg ?_
  refine WL.rd (RD.move rfl) rfl rfl ?_
  refine WL.rd (RD.move rfl) rfl rfl ?_
  refine WL.efS (EF.callS (.cons rfl (.cons rfl .nil)) (fun w hS => sEncodeFixed_c _ _ _ (by omega) (by omega))) rfl rfl ?_
  rintro ⟨⟩ -
  refine WL.rd (RD.assign rfl) rfl rfl ?_
  refine WL.nil ?_
  refine JE.seqN ?_
  refine J.seq ?_
  refine J.reg ?_
  refine WL.rd (RD.move rfl) rfl rfl ?_
  refine WL.rd (RD.move rfl) rfl rfl ?_
  refine WL.efS (EF.callS (.cons rfl (.cons rfl .nil)) (fun w hS => iEncodeFixed_c _ _ _ (by omega) (by omega))) rfl rfl ?_
  rintro ⟨⟩ -
  refine WL.rd (RD.assign rfl) rfl rfl ?_
  refine WL.nil ?_
  refine JE.seqN ?_
  refine J.seq ?_
  refine J.seq ?_
  refine J.reg ?_
  refine WL.rd (RD.move rfl) rfl rfl ?_
  refine WL.rd (RD.move rfl) rfl rfl ?_
  refine WL.rd (RD.neqS rfl rfl) rfl rfl ?_
  refine WL.nil ?_
  refine JE.seqN ?_
  refine J.condP rfl (fun hc15 => ?_) (fun hc15 => ?_)
  ·
    refine J.seq ?_
    refine J.reg ?_
    refine WL.rd (RD.assign rfl) rfl rfl ?_
    refine WL.nil ?_
    refine JE.seqN ?_
    refine J.ret ?_
    refine JE.ret rfl (.tmp rfl .nil) (fun w hS => ?_)
    exact CS.fin hS (by simp_all)
  ·
    refine J.skip ?_
    refine JE.seqN ?_
    refine J.seq ?_
    refine J.reg ?_
    refine WL.rd (RD.assign rfl) rfl rfl ?_
    refine WL.nil ?_
    refine JE.seqN ?_
    refine J.ret ?_
    refine JE.ret rfl (.tmp rfl .nil) (fun w hS => ?_)
    exact CS.fin hS (by simp_all [mkRes])

end Go.Proofs.Ytljllahlnbkimaa
