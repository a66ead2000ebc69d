/-
  No cell of these rows narrows 'for every input' (looked for: loops, veiled, ifaces, maps, wideKeys, modest, calm, conditions, laid).
  DERIVED. THE GIVEN ROWS OF THIS SEAT. 6 by the template 'for every input the law returns true; each argument reads behind the call as it read before'; 0 by the template 'total and deterministic' (their statements: YtffjepjblokjmaaTotals.lean).
  GIVEN WITH THE SEED: the statements are not yours to turn. If you find one false, say at which input.
  Laid BY PROGRAM, IN A SANDBOX (cutbox-rows.mjs): the forced cells as the released guide's own fill.sh prints them over the translation e4a210ffb3468ffd… (all of the seat's roots in one cut). By AI agents, Wed Nov 11 2026. No macro, syntax, notation, axiom, sorry.
-/
import Derived.Test.YtffjepjblokjmaaChecked
import GoSem.Claim
import GoSem.ClaimJoined
import GoSem.ClaimMapViews
import Derived.JoinedTies
import Derived.KernelRfl
namespace Go.Proofs.Ytffjepjblokjmaa
/- THE CELL 'sum', in the pinned program and in every row, IS THE sha256 OF THE DUMP (.gsa) THAT YtffjepjblokjmaaProg.lean LOADS. Nothing in Lean hashes anything: it is a label: what it is worth is what the hold of that sum in a sandbox is worth. -/
noncomputable def Try.pinned : Pinned := { name := "ytffjepjblokjmaa", sum := "e4a210ffb3468ffdd9ccf6e10e62db108241ad3fe7732cd61f5c681c7ac2cf0d", checked := Try.checked }
namespace Rows
def none {H : Type} : Left H := { results := [], args := [] }

/-- 'laws.FnExactPartOf': WHATEVER THE INPUT: true; the input reads as it did. -/
def fnExactPartOfSpec : ChangeSpec := { name := "fnExactPartOf", fn := fun _ => fun
  | [d1, d2] => { results := [.lit (.bool true)], args := [d1, d2] }
  | _ => none }
def fnExactPartOfRow : OpenClaim := { program := "ytffjepjblokjmaa", sum := "e4a210ffb3468ffdd9ccf6e10e62db108241ad3fe7732cd61f5c681c7ac2cf0d", func := "loop.example/g00522/laws.FnExactPartOf", spec := "fnExactPartOf", apart := false }
def FnExactPartOfSaid : Prop := fnExactPartOfRow.holds Try.pinned (OpenSpec.ofChange fnExactPartOfSpec)

/-- ITS FALSE NEIGHBOUR: 'it returns false'. Refute it at one input. -/
def fnExactPartOfWrong : ChangeSpec := { name := "fnExactPartOf", fn := fun _ => fun
  | [d1, d2] => { results := [.lit (.bool false)], args := [d1, d2] }
  | _ => none }
def FnExactPartOfWrongFalsely : Prop := fnExactPartOfRow.holds Try.pinned (OpenSpec.ofChange fnExactPartOfWrong)

/-- 'laws.FnExactPlaceIn': WHATEVER THE INPUT: true; the input reads as it did. -/
def fnExactPlaceInSpec : ChangeSpec := { name := "fnExactPlaceIn", fn := fun _ => fun
  | [d1, d2] => { results := [.lit (.bool true)], args := [d1, d2] }
  | _ => none }
def fnExactPlaceInRow : OpenClaim := { program := "ytffjepjblokjmaa", sum := "e4a210ffb3468ffdd9ccf6e10e62db108241ad3fe7732cd61f5c681c7ac2cf0d", func := "loop.example/g00522/laws.FnExactPlaceIn", spec := "fnExactPlaceIn", apart := false }
def FnExactPlaceInSaid : Prop := fnExactPlaceInRow.holds Try.pinned (OpenSpec.ofChange fnExactPlaceInSpec)

/-- ITS FALSE NEIGHBOUR: 'it returns false'. Refute it at one input. -/
def fnExactPlaceInWrong : ChangeSpec := { name := "fnExactPlaceIn", fn := fun _ => fun
  | [d1, d2] => { results := [.lit (.bool false)], args := [d1, d2] }
  | _ => none }
def FnExactPlaceInWrongFalsely : Prop := fnExactPlaceInRow.holds Try.pinned (OpenSpec.ofChange fnExactPlaceInWrong)

/-- 'laws.FnExactCounterOk': WHATEVER THE INPUT: true; the input reads as it did. -/
def fnExactCounterOkSpec : ChangeSpec := { name := "fnExactCounterOk", fn := fun _ => fun
  | [d] => { results := [.lit (.bool true)], args := [d] }
  | _ => none }
def fnExactCounterOkRow : OpenClaim := { program := "ytffjepjblokjmaa", sum := "e4a210ffb3468ffdd9ccf6e10e62db108241ad3fe7732cd61f5c681c7ac2cf0d", func := "loop.example/g00522/laws.FnExactCounterOk", spec := "fnExactCounterOk", unfollowed := true, recurses := true, apart := false }
def FnExactCounterOkSaid : Prop := fnExactCounterOkRow.holds Try.pinned (OpenSpec.ofChange fnExactCounterOkSpec)

/-- ITS FALSE NEIGHBOUR: 'it returns false'. Refute it at one input. -/
def fnExactCounterOkWrong : ChangeSpec := { name := "fnExactCounterOk", fn := fun _ => fun
  | [d] => { results := [.lit (.bool false)], args := [d] }
  | _ => none }
def FnExactCounterOkWrongFalsely : Prop := fnExactCounterOkRow.holds Try.pinned (OpenSpec.ofChange fnExactCounterOkWrong)

/-- 'laws.FnExactNewSketch': WHATEVER THE INPUT: true; the input reads as it did. -/
def fnExactNewSketchSpec : ChangeSpec := { name := "fnExactNewSketch", fn := fun _ => fun
  | [d] => { results := [.lit (.bool true)], args := [d] }
  | _ => none }
def fnExactNewSketchRow : OpenClaim := { program := "ytffjepjblokjmaa", sum := "e4a210ffb3468ffdd9ccf6e10e62db108241ad3fe7732cd61f5c681c7ac2cf0d", func := "loop.example/g00522/laws.FnExactNewSketch", spec := "fnExactNewSketch", apart := false }
def FnExactNewSketchSaid : Prop := fnExactNewSketchRow.holds Try.pinned (OpenSpec.ofChange fnExactNewSketchSpec)

/-- ITS FALSE NEIGHBOUR: 'it returns false'. Refute it at one input. -/
def fnExactNewSketchWrong : ChangeSpec := { name := "fnExactNewSketch", fn := fun _ => fun
  | [d] => { results := [.lit (.bool false)], args := [d] }
  | _ => none }
def FnExactNewSketchWrongFalsely : Prop := fnExactNewSketchRow.holds Try.pinned (OpenSpec.ofChange fnExactNewSketchWrong)

/-- 'laws.FnExactResetsIn': WHATEVER THE INPUT: true; the input reads as it did. -/
def fnExactResetsInSpec : ChangeSpec := { name := "fnExactResetsIn", fn := fun _ => fun
  | [d] => { results := [.lit (.bool true)], args := [d] }
  | _ => none }
def fnExactResetsInRow : OpenClaim := { program := "ytffjepjblokjmaa", sum := "e4a210ffb3468ffdd9ccf6e10e62db108241ad3fe7732cd61f5c681c7ac2cf0d", func := "loop.example/g00522/laws.FnExactResetsIn", spec := "fnExactResetsIn", unfollowed := true, recurses := true, apart := false }
def FnExactResetsInSaid : Prop := fnExactResetsInRow.holds Try.pinned (OpenSpec.ofChange fnExactResetsInSpec)

/-- ITS FALSE NEIGHBOUR: 'it returns false'. Refute it at one input. -/
def fnExactResetsInWrong : ChangeSpec := { name := "fnExactResetsIn", fn := fun _ => fun
  | [d] => { results := [.lit (.bool false)], args := [d] }
  | _ => none }
def FnExactResetsInWrongFalsely : Prop := fnExactResetsInRow.holds Try.pinned (OpenSpec.ofChange fnExactResetsInWrong)

/-- 'laws.FnExactNewHeavy': WHATEVER THE INPUT: true; the input reads as it did. -/
def fnExactNewHeavySpec : ChangeSpec := { name := "fnExactNewHeavy", fn := fun _ => fun
  | [d] => { results := [.lit (.bool true)], args := [d] }
  | _ => none }
def fnExactNewHeavyRow : OpenClaim := { program := "ytffjepjblokjmaa", sum := "e4a210ffb3468ffdd9ccf6e10e62db108241ad3fe7732cd61f5c681c7ac2cf0d", func := "loop.example/g00522/laws.FnExactNewHeavy", spec := "fnExactNewHeavy", apart := false }
def FnExactNewHeavySaid : Prop := fnExactNewHeavyRow.holds Try.pinned (OpenSpec.ofChange fnExactNewHeavySpec)

/-- ITS FALSE NEIGHBOUR: 'it returns false'. Refute it at one input. -/
def fnExactNewHeavyWrong : ChangeSpec := { name := "fnExactNewHeavy", fn := fun _ => fun
  | [d] => { results := [.lit (.bool false)], args := [d] }
  | _ => none }
def FnExactNewHeavyWrongFalsely : Prop := fnExactNewHeavyRow.holds Try.pinned (OpenSpec.ofChange fnExactNewHeavyWrong)

/- THE SECOND FORM. 'bulk': how many values and letters a reading holds, each counted each time it is reached (what is shared counts as often as it is met; a slice's spare places count too). A statement '..UptoSaid' is the law's where the arguments, and the package variables that the reading takes, are together of bulk at most 1048576: NARROWER than '..Said'. Prove '..Said' where nothing that the law and all that it calls make is longer than what came in: it says more and counts as full. Else prove '..UptoSaid'. A law counts once. -/
mutual
def uptoBulk {H : Type} : DataW H → Nat
  | .lit (.string bytes) => bytes.length + 1
  | .lit _ => 1
  | .nil => 1
  | .ptr d => uptoBulk d + 1
  | .slice elems spare => uptoBulkAll elems + uptoBulkAll spare + 1
  | .agg parts => uptoBulkAll parts + 1
  | .iface _ d => uptoBulk d + 1
  | .map entries => uptoBulkEntries entries + 1
  | .held _ => 1
def uptoBulkAll {H : Type} : List (DataW H) → Nat
  | [] => 0
  | d :: r => uptoBulk d + uptoBulkAll r
def uptoBulkEntries {H : Type} : List (Lit × DataW H) → Nat
  | [] => 0
  | x :: r => uptoBulkEntry x + uptoBulkEntries r
def uptoBulkEntry {H : Type} : Lit × DataW H → Nat
  | (.string bytes, d) => bytes.length + uptoBulk d + 1
  | (_, d) => uptoBulk d + 1
 end
def uptoSmall : (H : Type) → List (DataW H) → Bool := fun _ ds => decide (uptoBulkAll ds ≤ 1048576)
def OpenSpec.upto (s : _root_.Go.ChangeSpec) : _root_.Go.OpenSpec := { _root_.Go.OpenSpec.ofChange s with cond := some uptoSmall }

/-- 'laws.FnExactPartOf', WHERE WHAT IT READS IS OF BULK AT MOST 1048576: true; the input reads as it did. -/
def fnExactPartOfUptoRow : OpenClaim := { program := "ytffjepjblokjmaa", sum := "e4a210ffb3468ffdd9ccf6e10e62db108241ad3fe7732cd61f5c681c7ac2cf0d", func := "loop.example/g00522/laws.FnExactPartOf", spec := "fnExactPartOf", apart := false, narrowed := true }
def FnExactPartOfUptoSaid : Prop := fnExactPartOfUptoRow.holds Try.pinned (OpenSpec.upto fnExactPartOfSpec)

/-- 'laws.FnExactPlaceIn', WHERE WHAT IT READS IS OF BULK AT MOST 1048576: true; the input reads as it did. -/
def fnExactPlaceInUptoRow : OpenClaim := { program := "ytffjepjblokjmaa", sum := "e4a210ffb3468ffdd9ccf6e10e62db108241ad3fe7732cd61f5c681c7ac2cf0d", func := "loop.example/g00522/laws.FnExactPlaceIn", spec := "fnExactPlaceIn", apart := false, narrowed := true }
def FnExactPlaceInUptoSaid : Prop := fnExactPlaceInUptoRow.holds Try.pinned (OpenSpec.upto fnExactPlaceInSpec)

/-- 'laws.FnExactCounterOk', WHERE WHAT IT READS IS OF BULK AT MOST 1048576: true; the input reads as it did. -/
def fnExactCounterOkUptoRow : OpenClaim := { program := "ytffjepjblokjmaa", sum := "e4a210ffb3468ffdd9ccf6e10e62db108241ad3fe7732cd61f5c681c7ac2cf0d", func := "loop.example/g00522/laws.FnExactCounterOk", spec := "fnExactCounterOk", unfollowed := true, recurses := true, apart := false, narrowed := true }
def FnExactCounterOkUptoSaid : Prop := fnExactCounterOkUptoRow.holds Try.pinned (OpenSpec.upto fnExactCounterOkSpec)

/-- 'laws.FnExactNewSketch', WHERE WHAT IT READS IS OF BULK AT MOST 1048576: true; the input reads as it did. -/
def fnExactNewSketchUptoRow : OpenClaim := { program := "ytffjepjblokjmaa", sum := "e4a210ffb3468ffdd9ccf6e10e62db108241ad3fe7732cd61f5c681c7ac2cf0d", func := "loop.example/g00522/laws.FnExactNewSketch", spec := "fnExactNewSketch", apart := false, narrowed := true }
def FnExactNewSketchUptoSaid : Prop := fnExactNewSketchUptoRow.holds Try.pinned (OpenSpec.upto fnExactNewSketchSpec)

/-- 'laws.FnExactResetsIn', WHERE WHAT IT READS IS OF BULK AT MOST 1048576: true; the input reads as it did. -/
def fnExactResetsInUptoRow : OpenClaim := { program := "ytffjepjblokjmaa", sum := "e4a210ffb3468ffdd9ccf6e10e62db108241ad3fe7732cd61f5c681c7ac2cf0d", func := "loop.example/g00522/laws.FnExactResetsIn", spec := "fnExactResetsIn", unfollowed := true, recurses := true, apart := false, narrowed := true }
def FnExactResetsInUptoSaid : Prop := fnExactResetsInUptoRow.holds Try.pinned (OpenSpec.upto fnExactResetsInSpec)

/-- 'laws.FnExactNewHeavy', WHERE WHAT IT READS IS OF BULK AT MOST 1048576: true; the input reads as it did. -/
def fnExactNewHeavyUptoRow : OpenClaim := { program := "ytffjepjblokjmaa", sum := "e4a210ffb3468ffdd9ccf6e10e62db108241ad3fe7732cd61f5c681c7ac2cf0d", func := "loop.example/g00522/laws.FnExactNewHeavy", spec := "fnExactNewHeavy", apart := false, narrowed := true }
def FnExactNewHeavyUptoSaid : Prop := fnExactNewHeavyUptoRow.holds Try.pinned (OpenSpec.upto fnExactNewHeavySpec)

end Rows
end Go.Proofs.Ytffjepjblokjmaa
