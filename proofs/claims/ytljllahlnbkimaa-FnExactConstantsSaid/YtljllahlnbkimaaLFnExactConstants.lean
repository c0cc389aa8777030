/- Contracts of functions of the program, each walked once; written by a program of our own. -/
import Derived.Test.YtljllahlnbkimaaCe
namespace Go.Proofs.Ytljllahlnbkimaa
open Go Go.RowKit

theorem law_c (w : World) :
    CS Try.prog 3 [] w (.bool true) := by
  refine calls_of_J (mu := (fun _ => False)) (m := []) (e := []) Try.func3 rfl rfl .nil (St.init _ _) ?_
  refine J.seq ?_
  refine J.reg ?_
  refine WL.rd (RD.assign rfl) rfl rfl ?_
  refine WL.nil ?_
  refine JE.seqN ?_
  refine J.seq ?_
  refine J.condF rfl ?_
  refine J.skip ?_
  refine JE.seqN ?_
  refine J.seq ?_
  refine J.condF rfl ?_
  refine J.skip ?_
  refine JE.seqN ?_
  refine J.seq ?_
  refine J.condF rfl ?_
  refine J.skip ?_
  refine JE.seqN ?_
  refine J.seq ?_
  refine J.condF rfl ?_
  refine J.skip ?_
  refine JE.seqN ?_
  refine J.seq ?_
  refine J.condF rfl ?_
  refine J.skip ?_
  refine JE.seqN ?_
  refine J.seq ?_
  refine J.condF rfl ?_
  refine J.skip ?_
  refine JE.seqN ?_
  refine J.seq ?_
  refine J.condF rfl ?_
  refine J.skip ?_
  refine JE.seqN ?_
  refine J.seq ?_
  refine J.condF rfl ?_
  refine J.skip ?_
  refine JE.seqN ?_
  refine J.seq ?_
  refine J.condF rfl ?_
  refine J.skip ?_
  refine JE.seqN ?_
  refine J.seq ?_
  refine J.condF rfl ?_
  refine J.skip ?_
  refine JE.seqN ?_
  refine J.seq ?_
  refine J.condF rfl ?_
  refine J.skip ?_
  refine JE.seqN ?_
  refine J.seq ?_
  refine J.condF rfl ?_
  refine J.skip ?_
  refine JE.seqN ?_
  refine J.seq ?_
  refine J.condF rfl ?_
  refine J.skip ?_
  refine JE.seqN ?_
  refine J.seq ?_
  refine J.condF rfl ?_
  refine J.skip ?_
  refine JE.seqN ?_
  refine J.seq ?_
  refine J.condF rfl ?_
  refine J.skip ?_
  refine JE.seqN ?_
  refine J.seq ?_
  refine J.condF rfl ?_
  refine J.skip ?_
  refine JE.seqN ?_
  refine J.seq ?_
  refine J.condF rfl ?_
  refine J.skip ?_
  refine JE.seqN ?_
  refine J.seq ?_
  refine J.condF rfl ?_
  refine J.skip ?_
  refine JE.seqN ?_
  refine J.seq ?_
  refine J.condF rfl ?_
  refine J.skip ?_
  refine JE.seqN ?_
  refine J.seq ?_
  refine J.condF rfl ?_
  refine J.skip ?_
  refine JE.seqN ?_
  refine J.seq ?_
  refine J.condF rfl ?_
  refine J.skip ?_
  refine JE.seqN ?_
  refine J.seq ?_
  refine J.condF rfl ?_
  refine J.skip ?_
  refine JE.seqN ?_
  refine J.seq ?_
  refine J.condF rfl ?_
  refine J.skip ?_
  refine JE.seqN ?_
  refine J.seq ?_
  refine J.condF rfl ?_
  refine J.skip ?_
  refine JE.seqN ?_
  refine J.seq ?_
  refine J.condF rfl ?_
  refine J.skip ?_
  refine JE.seqN ?_
  refine J.seq ?_
  refine J.condF rfl ?_
  refine J.skip ?_
  refine JE.seqN ?_
  refine J.seq ?_
  refine J.condF rfl ?_
  refine J.skip ?_
  refine JE.seqN ?_
  refine J.seq ?_
  refine J.reg ?_
  refine WL.rd (RD.assign rfl) rfl rfl ?_
  refine WL.nil ?_
  refine JE.seqN ?_
  refine J.ret ?_
  refine JE.ret rfl (.tmp rfl .nil) (fun w hS => ?_)
  exact CS.fin hS (by simp_all [mkRes])

end Go.Proofs.Ytljllahlnbkimaa
