/- Mail: the reference's Number and Dyad, of all arguments -/
import Derived.Test.YtjmhefkmpfkpbaaFZ
namespace Go.Proofs.Ytjmhefkmpfkpbaa
open Go.ChangeShapes Go.WideShapes Go.ChangeAt Go.RowKit
set_option linter.unusedSimpArgs false
set_option linter.unusedVariables false
end Go.Proofs.Ytjmhefkmpfkpbaa
