/- Sequences of Go's library, by facts: pieces of a slice; the values of a slice of slices. Conditions: lengths far below the greatest. -/
import Derived.Test.YtchfhndpbfohhaaGOct
import Derived.Test.YtchfhndpbfohhaaProg
import Derived.Test.YtchfhndpbfohhaaFwU
namespace Go.Proofs.Ytchfhndpbfohhaa
set_option linter.unusedVariables false
set_option linter.unusedSimpArgs false
set_option linter.unnecessarySimpa false
open Go.RowKit Bv Fw


end Go.Proofs.Ytchfhndpbfohhaa
