/- Contracts of functions of the program, each walked once; written by a program of our own. -/
import Derived.Test.YtmnaohimnladnaaGd
import Derived.Test.YtmnaohimnladnaaMk
import Derived.Test.YtmnaohimnladnaaSc
namespace Go.Proofs.Ytmnaohimnladnaa
open Go Go.RowKit
set_option maxRecDepth 4000


end Go.Proofs.Ytmnaohimnladnaa
