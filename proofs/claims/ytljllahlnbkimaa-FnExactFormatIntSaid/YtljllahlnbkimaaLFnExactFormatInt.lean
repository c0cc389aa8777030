/- Contracts of functions of the program, each walked once; written by a program of our own. -/
import Derived.Test.YtljllahlnbkimaaCg
namespace Go.Proofs.Ytljllahlnbkimaa
open Go Go.RowKit

theorem law_c (n : Int) (w : World) (hn : -9223372036854775808 ≤ n ∧ n ≤ 9223372036854775807) :
    CS Try.prog 8 [.int .i64 n] w (.bool true) := by
  refine calls_of_J (mu := (fun _ => False)) (m := []) (e := [(0, .int .i64 n)]) Try.func8 rfl rfl (.cons rfl .nil) (St.init _ _) ?_
  refine J.seq ?_
  refine J.reg ?_
  refine WL.rd (RD.assign rfl) rfl rfl ?_
  refine WL.nil ?_
  refine JE.seqN ?_
  refine J.seq ?_
  refine J.reg ?_
  refine WL.rd (RD.move rfl) rfl rfl ?_
  refine WL.efS (EF.callS (.cons rfl .nil) (fun w hS => sFormatInt_c _ _ (by omega))) rfl rfl ?_
  rintro ⟨⟩ -
  refine WL.rd (RD.assign rfl) rfl rfl ?_
  refine WL.nil ?_
  refine JE.seqN ?_
  refine J.seq ?_
  refine J.reg ?_
  refine WL.rd (RD.move rfl) rfl rfl ?_
  refine WL.efS (EF.callS (.cons rfl .nil) (fun w hS => iFormatInt_c _ _ (by omega))) rfl rfl ?_
  rintro ⟨⟩ -
  refine WL.rd (RD.assign rfl) rfl rfl ?_
  refine WL.nil ?_
  refine JE.seqN ?_
  refine J.seq ?_
  refine J.seq ?_
  refine J.reg ?_
  refine WL.rd (RD.move rfl) rfl rfl ?_
  refine WL.rd (RD.move rfl) rfl rfl ?_
  refine WL.rd (RD.neqS rfl rfl) rfl rfl ?_
  refine WL.nil ?_
  refine JE.seqN ?_
  refine J.condP rfl (fun hc11 => ?_) (fun hc11 => ?_)
  ·
    refine J.seq ?_
    refine J.reg ?_
    refine WL.rd (RD.assign rfl) rfl rfl ?_
    refine WL.nil ?_
    refine JE.seqN ?_
    refine J.ret ?_
    refine JE.ret rfl (.tmp rfl .nil) (fun w hS => ?_)
    exact CS.fin hS (by simp_all)
  ·
    refine J.skip ?_
    refine JE.seqN ?_
    refine J.seq ?_
    refine J.reg ?_
    refine WL.rd (RD.assign rfl) rfl rfl ?_
    refine WL.nil ?_
    refine JE.seqN ?_
    refine J.ret ?_
    refine JE.ret rfl (.tmp rfl .nil) (fun w hS => ?_)
    exact CS.fin hS (by simp_all [mkRes])

end Go.Proofs.Ytljllahlnbkimaa
