/- A reader: how bytes are taken off. -/
import Derived.Test.YtlihhjldkopfhaaOct2
namespace Go.Proofs.Ytlihhjldkopfhaa
open Go.RowKit
open Go.Lib (hid)
end Go.Proofs.Ytlihhjldkopfhaa
