/- The document's fractions (frisketref04): negatives. -/
import Derived.Test.YtmibjfkpchncgaaGreatQ16
namespace Go.Proofs.YtmibjfkpchncgaaGreat
set_option linter.unusedVariables false
open Go Go.RowKit

end Go.Proofs.YtmibjfkpchncgaaGreat
