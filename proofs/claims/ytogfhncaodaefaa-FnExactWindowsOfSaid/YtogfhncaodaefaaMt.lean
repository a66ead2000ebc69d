/-
  The text of a mark. No conditions.
-/
import Derived.Test.YtogfhncaodaefaaRows
import Derived.Test.YtogfhncaodaefaaTy
import Derived.Test.YtogfhncaodaefaaQu
import Derived.WalkLawsBesides
import Derived.WalkSpells
import Derived.Outline
import Derived.Lib.Hide
import Derived.Laws.IdiomStrings
import Derived.Laws.Concat
namespace Go.Proofs.Ytogfhncaodaefaa
open Go.RowKit
end Go.Proofs.Ytogfhncaodaefaa
