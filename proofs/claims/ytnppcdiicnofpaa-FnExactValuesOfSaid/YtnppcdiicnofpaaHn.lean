/-
  The laws' own markings of whole structs that are owned. No conditions.
-/
import Derived.Test.YtnppcdiicnofpaaWa
import Derived.Test.YtnppcdiicnofpaaTy
import Derived.Test.YtnppcdiicnofpaaQu
import Derived.Test.YtnppcdiicnofpaaHm
import Derived.Lib.Hide
import Derived.Deep.DeepFit
namespace Go.Proofs.Ytnppcdiicnofpaa
open Go.RowKit
attribute [local go_sem] und_cell
end Go.Proofs.Ytnppcdiicnofpaa
