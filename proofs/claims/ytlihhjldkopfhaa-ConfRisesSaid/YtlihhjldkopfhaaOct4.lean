/- A reader: numbers are taken off. -/
import Derived.Test.YtlihhjldkopfhaaOct3
namespace Go.Proofs.Ytlihhjldkopfhaa
open Go.RowKit
open Go.Lib (hid)
end Go.Proofs.Ytlihhjldkopfhaa
