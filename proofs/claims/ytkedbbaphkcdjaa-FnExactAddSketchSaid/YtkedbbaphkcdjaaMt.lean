/-
  The text of a mark. No conditions.
-/
import Derived.Test.YtkedbbaphkcdjaaRows
import Derived.Test.YtkedbbaphkcdjaaTy
import Derived.Test.YtkedbbaphkcdjaaQu
import Derived.WalkLawsBesides
import Derived.WalkSpells
import Derived.Outline
import Derived.Lib.Hide
import Derived.Laws.IdiomStrings
import Derived.Laws.Concat
namespace Go.Proofs.Ytkedbbaphkcdjaa
open Go.RowKit
end Go.Proofs.Ytkedbbaphkcdjaa
