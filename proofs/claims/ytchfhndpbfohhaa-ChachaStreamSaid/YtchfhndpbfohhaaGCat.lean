/- slices.Concat, slices.Values of slices of bytes, by facts. Conditions: all lengths together below 10^14. -/
import Derived.Test.YtchfhndpbfohhaaGSeq
import Derived.Test.YtchfhndpbfohhaaProg
import Derived.Test.YtchfhndpbfohhaaFwU
namespace Go.Proofs.Ytchfhndpbfohhaa
set_option linter.unusedVariables false
set_option linter.unusedSimpArgs false
set_option linter.unnecessarySimpa false
open Go.RowKit Bv Fw


end Go.Proofs.Ytchfhndpbfohhaa
