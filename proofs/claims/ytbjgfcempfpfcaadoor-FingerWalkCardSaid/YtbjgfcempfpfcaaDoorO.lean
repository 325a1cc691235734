/- Contracts of the layer rect: the program's Gone, Notify. -/
import Derived.Test.YtbjgfcempfpfcaaDoorN
namespace Go.Proofs.YtbjgfcempfpfcaaDoor
open Go.RowKit Go.Shelf

end Go.Proofs.YtbjgfcempfpfcaaDoor
