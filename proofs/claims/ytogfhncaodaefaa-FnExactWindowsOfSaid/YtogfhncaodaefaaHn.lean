/-
  The laws' own markings of whole structs that are owned. No conditions.
-/
import Derived.Test.YtogfhncaodaefaaWa
import Derived.Test.YtogfhncaodaefaaTy
import Derived.Test.YtogfhncaodaefaaQu
import Derived.Test.YtogfhncaodaefaaHm
import Derived.Lib.Hide
import Derived.Deep.DeepFit
namespace Go.Proofs.Ytogfhncaodaefaa
open Go.RowKit
attribute [local go_sem] und_cell
end Go.Proofs.Ytogfhncaodaefaa
