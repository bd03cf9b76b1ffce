/- The document's fractions (frisketref04): products. -/
import Derived.Test.YtogcmnagiepofaaQ13
namespace Go.Proofs.Ytogcmnagiepofaa
set_option linter.unusedVariables false
open Go Go.RowKit

end Go.Proofs.Ytogcmnagiepofaa
