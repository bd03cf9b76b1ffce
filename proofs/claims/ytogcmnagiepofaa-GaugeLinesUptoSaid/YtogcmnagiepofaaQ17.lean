/- The document's fractions (frisketref04): negatives. -/
import Derived.Test.YtogcmnagiepofaaQ16
namespace Go.Proofs.Ytogcmnagiepofaa
set_option linter.unusedVariables false
open Go Go.RowKit

end Go.Proofs.Ytogcmnagiepofaa
