/-
  The reference of tokens (waypostref05): Cut.
-/
import Derived.Test.YtpdohlnobbimaaaDoorTr3
namespace Go.Proofs.YtpdohlnobbimaaaDoor
open Go.RowKit

end Go.Proofs.YtpdohlnobbimaaaDoor
