/- Contracts of functions of the program, each walked once; written by a program of our own. -/
import Derived.Test.YtmkalfofmodbdaaGbA
import Derived.Test.YtmkalfofmodbdaaMj
import Derived.Test.YtmkalfofmodbdaaMi
import Derived.Test.YtmkalfofmodbdaaMk
import Derived.Test.YtmkalfofmodbdaaSc
import Derived.Test.YtmkalfofmodbdaaMs
import Derived.Test.YtmkalfofmodbdaaMx
namespace Go.Proofs.Ytmkalfofmodbdaa
open Go Go.RowKit
set_option maxRecDepth 4000

theorem bar_c (a b : Int) (w : World) :
    CS Try.prog 19 [.int .i64 a, .int .i64 b] w (.agg (bv (min a b, max a b)).toArray) := by
 refine calls_of_J (mu := (fun _ => False)) (m := []) (e := [(0, .int .i64 a), (1, .int .i64 b)]) Try.func19 rfl rfl (.cons rfl (.cons rfl .nil)) (St.init _ _) ?_
 refine J.seq ?_
 refine J.reg ?_
 refine WL.efS (EF.allocA) rfl rfl ?_
 intro b4 _
 refine WL.nil ?_
 refine JE.seqN ?_
 refine J.seq ?_
 refine J.reg ?_
 refine WL.rd (RD.move rfl) rfl rfl ?_
 refine WL.rd (RD.move rfl) rfl rfl ?_
 refine WL.rd (RD.min rfl rfl) rfl rfl ?_
 refine WL.rd (RD.move rfl) rfl rfl ?_
 refine WL.rd (RD.move rfl) rfl rfl ?_
 refine WL.rd (RD.max rfl rfl) rfl rfl ?_
 refine WL.rd (RD.build (n := 2) (.cons rfl (.cons rfl .nil)) rfl) rfl rfl ?_
 refine WL.efN (EF.storeA rfl rfl rfl rfl) rfl ?_
 rintro ⟨⟩ -
 refine WL.nil ?_
 refine JE.seqN ?_
 refine J.ret ?_
 refine JE.ret rfl (ResL.flat rfl rfl .nil) (fun w hS => ?_)
 exact CS.fin hS rfl

end Go.Proofs.Ytmkalfofmodbdaa
