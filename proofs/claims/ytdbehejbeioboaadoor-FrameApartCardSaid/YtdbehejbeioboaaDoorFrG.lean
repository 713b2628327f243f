/- Messages: the document's Decode. -/
import Derived.Test.YtdbehejbeioboaaDoorFrF
namespace Go.Proofs.YtdbehejbeioboaaDoor
open Go.RowKit
open Asn (pt row rb)
set_option linter.unusedVariables false
set_option linter.unusedSimpArgs false
--@use N

end Go.Proofs.YtdbehejbeioboaaDoor
