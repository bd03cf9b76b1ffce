/- The document's numbers (frisketref01) and the program's (nat), function by function: part 1. -/
import Derived.Test.YtbhjookpdmfdnaaDoorProg
import Derived.Test.YtbhjookpdmfdnaaDoorMem
import Derived.Outline
namespace Go.Proofs.YtbhjookpdmfdnaaDoor
set_option linter.unusedVariables false
open Go Go.RowKit

end Go.Proofs.YtbhjookpdmfdnaaDoor
