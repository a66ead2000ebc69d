/-
  No cell of these rows narrows 'for every input' (looked for: loops, veiled, ifaces, maps, wideKeys, modest, calm, conditions, laid).
  DERIVED. THE GIVEN ROWS OF THIS SEAT. 6 by the template 'for every input the law returns true; each argument reads behind the call as it read before'; 0 by the template 'total and deterministic' (their statements: YtkedbbaphkcdjaaTotals.lean).
  GIVEN WITH THE SEED: the statements are not yours to turn. If you find one false, say at which input.
  Laid BY PROGRAM, IN A SANDBOX (cutbox-rows.mjs): the forced cells as the released guide's own fill.sh prints them over the translation f7c2883cef354eac… (all of the seat's roots in one cut). By AI agents, Wed Nov 11 2026. No macro, syntax, notation, axiom, sorry.
-/
import Derived.Test.YtkedbbaphkcdjaaChecked
import GoSem.Claim
import GoSem.ClaimJoined
import GoSem.ClaimMapViews
import Derived.JoinedTies
import Derived.KernelRfl
namespace Go.Proofs.Ytkedbbaphkcdjaa
/- THE CELL 'sum', in the pinned program and in every row, IS THE sha256 OF THE DUMP (.gsa) THAT YtkedbbaphkcdjaaProg.lean LOADS. Nothing in Lean hashes anything: it is a label: what it is worth is what the hold of that sum in a sandbox is worth. -/
noncomputable def Try.pinned : Pinned := { name := "ytkedbbaphkcdjaa", sum := "f7c2883cef354eacb5a07f08a18614d7edacea27fb0ad13d99c458874dd3edff", checked := Try.checked }
namespace Rows
def none {H : Type} : Left H := { results := [], args := [] }

/-- 'laws.FnExactGoodSketch': WHATEVER THE INPUT: true; the input reads as it did. -/
def fnExactGoodSketchSpec : ChangeSpec := { name := "fnExactGoodSketch", fn := fun _ => fun
  | [d] => { results := [.lit (.bool true)], args := [d] }
  | _ => none }
def fnExactGoodSketchRow : OpenClaim := { program := "ytkedbbaphkcdjaa", sum := "f7c2883cef354eacb5a07f08a18614d7edacea27fb0ad13d99c458874dd3edff", func := "loop.example/g00522/laws.FnExactGoodSketch", spec := "fnExactGoodSketch", apart := false }
def FnExactGoodSketchSaid : Prop := fnExactGoodSketchRow.holds Try.pinned (OpenSpec.ofChange fnExactGoodSketchSpec)

/-- ITS FALSE NEIGHBOUR: 'it returns false'. Refute it at one input. -/
def fnExactGoodSketchWrong : ChangeSpec := { name := "fnExactGoodSketch", fn := fun _ => fun
  | [d] => { results := [.lit (.bool false)], args := [d] }
  | _ => none }
def FnExactGoodSketchWrongFalsely : Prop := fnExactGoodSketchRow.holds Try.pinned (OpenSpec.ofChange fnExactGoodSketchWrong)

/-- 'laws.FnExactGuessOf': WHATEVER THE INPUT: true; the input reads as it did. -/
def fnExactGuessOfSpec : ChangeSpec := { name := "fnExactGuessOf", fn := fun _ => fun
  | [d1, d2] => { results := [.lit (.bool true)], args := [d1, d2] }
  | _ => none }
def fnExactGuessOfRow : OpenClaim := { program := "ytkedbbaphkcdjaa", sum := "f7c2883cef354eacb5a07f08a18614d7edacea27fb0ad13d99c458874dd3edff", func := "loop.example/g00522/laws.FnExactGuessOf", spec := "fnExactGuessOf", apart := false }
def FnExactGuessOfSaid : Prop := fnExactGuessOfRow.holds Try.pinned (OpenSpec.ofChange fnExactGuessOfSpec)

/-- ITS FALSE NEIGHBOUR: 'it returns false'. Refute it at one input. -/
def fnExactGuessOfWrong : ChangeSpec := { name := "fnExactGuessOf", fn := fun _ => fun
  | [d1, d2] => { results := [.lit (.bool false)], args := [d1, d2] }
  | _ => none }
def FnExactGuessOfWrongFalsely : Prop := fnExactGuessOfRow.holds Try.pinned (OpenSpec.ofChange fnExactGuessOfWrong)

/-- 'laws.FnExactJoinSketches': WHATEVER THE INPUT: true; the input reads as it did. -/
def fnExactJoinSketchesSpec : ChangeSpec := { name := "fnExactJoinSketches", fn := fun _ => fun
  | [d1, d2] => { results := [.lit (.bool true)], args := [d1, d2] }
  | _ => none }
def fnExactJoinSketchesRow : OpenClaim := { program := "ytkedbbaphkcdjaa", sum := "f7c2883cef354eacb5a07f08a18614d7edacea27fb0ad13d99c458874dd3edff", func := "loop.example/g00522/laws.FnExactJoinSketches", spec := "fnExactJoinSketches", apart := false }
def FnExactJoinSketchesSaid : Prop := fnExactJoinSketchesRow.holds Try.pinned (OpenSpec.ofChange fnExactJoinSketchesSpec)

/-- ITS FALSE NEIGHBOUR: 'it returns false'. Refute it at one input. -/
def fnExactJoinSketchesWrong : ChangeSpec := { name := "fnExactJoinSketches", fn := fun _ => fun
  | [d1, d2] => { results := [.lit (.bool false)], args := [d1, d2] }
  | _ => none }
def FnExactJoinSketchesWrongFalsely : Prop := fnExactJoinSketchesRow.holds Try.pinned (OpenSpec.ofChange fnExactJoinSketchesWrong)

/-- 'laws.FnExactAddSketch': WHATEVER THE INPUT: true; the input reads as it did. -/
def fnExactAddSketchSpec : ChangeSpec := { name := "fnExactAddSketch", fn := fun _ => fun
  | [d1, d2, d3] => { results := [.lit (.bool true)], args := [d1, d2, d3] }
  | _ => none }
def fnExactAddSketchRow : OpenClaim := { program := "ytkedbbaphkcdjaa", sum := "f7c2883cef354eacb5a07f08a18614d7edacea27fb0ad13d99c458874dd3edff", func := "loop.example/g00522/laws.FnExactAddSketch", spec := "fnExactAddSketch", apart := false }
def FnExactAddSketchSaid : Prop := fnExactAddSketchRow.holds Try.pinned (OpenSpec.ofChange fnExactAddSketchSpec)

/-- ITS FALSE NEIGHBOUR: 'it returns false'. Refute it at one input. -/
def fnExactAddSketchWrong : ChangeSpec := { name := "fnExactAddSketch", fn := fun _ => fun
  | [d1, d2, d3] => { results := [.lit (.bool false)], args := [d1, d2, d3] }
  | _ => none }
def FnExactAddSketchWrongFalsely : Prop := fnExactAddSketchRow.holds Try.pinned (OpenSpec.ofChange fnExactAddSketchWrong)

/-- 'laws.FnExactGoodHeavy': WHATEVER THE INPUT: true; the input reads as it did. -/
def fnExactGoodHeavySpec : ChangeSpec := { name := "fnExactGoodHeavy", fn := fun _ => fun
  | [d] => { results := [.lit (.bool true)], args := [d] }
  | _ => none }
def fnExactGoodHeavyRow : OpenClaim := { program := "ytkedbbaphkcdjaa", sum := "f7c2883cef354eacb5a07f08a18614d7edacea27fb0ad13d99c458874dd3edff", func := "loop.example/g00522/laws.FnExactGoodHeavy", spec := "fnExactGoodHeavy", apart := false }
def FnExactGoodHeavySaid : Prop := fnExactGoodHeavyRow.holds Try.pinned (OpenSpec.ofChange fnExactGoodHeavySpec)

/-- ITS FALSE NEIGHBOUR: 'it returns false'. Refute it at one input. -/
def fnExactGoodHeavyWrong : ChangeSpec := { name := "fnExactGoodHeavy", fn := fun _ => fun
  | [d] => { results := [.lit (.bool false)], args := [d] }
  | _ => none }
def FnExactGoodHeavyWrongFalsely : Prop := fnExactGoodHeavyRow.holds Try.pinned (OpenSpec.ofChange fnExactGoodHeavyWrong)

/-- 'laws.FnExactLeastOf': WHATEVER THE INPUT: true; the input reads as it did. -/
def fnExactLeastOfSpec : ChangeSpec := { name := "fnExactLeastOf", fn := fun _ => fun
  | [d1, d2] => { results := [.lit (.bool true)], args := [d1, d2] }
  | _ => none }
def fnExactLeastOfRow : OpenClaim := { program := "ytkedbbaphkcdjaa", sum := "f7c2883cef354eacb5a07f08a18614d7edacea27fb0ad13d99c458874dd3edff", func := "loop.example/g00522/laws.FnExactLeastOf", spec := "fnExactLeastOf", apart := false }
def FnExactLeastOfSaid : Prop := fnExactLeastOfRow.holds Try.pinned (OpenSpec.ofChange fnExactLeastOfSpec)

/-- ITS FALSE NEIGHBOUR: 'it returns false'. Refute it at one input. -/
def fnExactLeastOfWrong : ChangeSpec := { name := "fnExactLeastOf", fn := fun _ => fun
  | [d1, d2] => { results := [.lit (.bool false)], args := [d1, d2] }
  | _ => none }
def FnExactLeastOfWrongFalsely : Prop := fnExactLeastOfRow.holds Try.pinned (OpenSpec.ofChange fnExactLeastOfWrong)

/- THE SECOND FORM. 'bulk': how many values and letters a reading holds, each counted each time it is reached (what is shared counts as often as it is met; a slice's spare places count too). A statement '..UptoSaid' is the law's where the arguments, and the package variables that the reading takes, are together of bulk at most 1048576: NARROWER than '..Said'. Prove '..Said' where nothing that the law and all that it calls make is longer than what came in: it says more and counts as full. Else prove '..UptoSaid'. A law counts once. -/
mutual
def uptoBulk {H : Type} : DataW H → Nat
  | .lit (.string bytes) => bytes.length + 1
  | .lit _ => 1
  | .nil => 1
  | .ptr d => uptoBulk d + 1
  | .slice elems spare => uptoBulkAll elems + uptoBulkAll spare + 1
  | .agg parts => uptoBulkAll parts + 1
  | .iface _ d => uptoBulk d + 1
  | .map entries => uptoBulkEntries entries + 1
  | .held _ => 1
def uptoBulkAll {H : Type} : List (DataW H) → Nat
  | [] => 0
  | d :: r => uptoBulk d + uptoBulkAll r
def uptoBulkEntries {H : Type} : List (Lit × DataW H) → Nat
  | [] => 0
  | x :: r => uptoBulkEntry x + uptoBulkEntries r
def uptoBulkEntry {H : Type} : Lit × DataW H → Nat
  | (.string bytes, d) => bytes.length + uptoBulk d + 1
  | (_, d) => uptoBulk d + 1
 end
def uptoSmall : (H : Type) → List (DataW H) → Bool := fun _ ds => decide (uptoBulkAll ds ≤ 1048576)
def OpenSpec.upto (s : _root_.Go.ChangeSpec) : _root_.Go.OpenSpec := { _root_.Go.OpenSpec.ofChange s with cond := some uptoSmall }

/-- 'laws.FnExactGoodSketch', WHERE WHAT IT READS IS OF BULK AT MOST 1048576: true; the input reads as it did. -/
def fnExactGoodSketchUptoRow : OpenClaim := { program := "ytkedbbaphkcdjaa", sum := "f7c2883cef354eacb5a07f08a18614d7edacea27fb0ad13d99c458874dd3edff", func := "loop.example/g00522/laws.FnExactGoodSketch", spec := "fnExactGoodSketch", apart := false, narrowed := true }
def FnExactGoodSketchUptoSaid : Prop := fnExactGoodSketchUptoRow.holds Try.pinned (OpenSpec.upto fnExactGoodSketchSpec)

/-- 'laws.FnExactGuessOf', WHERE WHAT IT READS IS OF BULK AT MOST 1048576: true; the input reads as it did. -/
def fnExactGuessOfUptoRow : OpenClaim := { program := "ytkedbbaphkcdjaa", sum := "f7c2883cef354eacb5a07f08a18614d7edacea27fb0ad13d99c458874dd3edff", func := "loop.example/g00522/laws.FnExactGuessOf", spec := "fnExactGuessOf", apart := false, narrowed := true }
def FnExactGuessOfUptoSaid : Prop := fnExactGuessOfUptoRow.holds Try.pinned (OpenSpec.upto fnExactGuessOfSpec)

/-- 'laws.FnExactJoinSketches', WHERE WHAT IT READS IS OF BULK AT MOST 1048576: true; the input reads as it did. -/
def fnExactJoinSketchesUptoRow : OpenClaim := { program := "ytkedbbaphkcdjaa", sum := "f7c2883cef354eacb5a07f08a18614d7edacea27fb0ad13d99c458874dd3edff", func := "loop.example/g00522/laws.FnExactJoinSketches", spec := "fnExactJoinSketches", apart := false, narrowed := true }
def FnExactJoinSketchesUptoSaid : Prop := fnExactJoinSketchesUptoRow.holds Try.pinned (OpenSpec.upto fnExactJoinSketchesSpec)

/-- 'laws.FnExactAddSketch', WHERE WHAT IT READS IS OF BULK AT MOST 1048576: true; the input reads as it did. -/
def fnExactAddSketchUptoRow : OpenClaim := { program := "ytkedbbaphkcdjaa", sum := "f7c2883cef354eacb5a07f08a18614d7edacea27fb0ad13d99c458874dd3edff", func := "loop.example/g00522/laws.FnExactAddSketch", spec := "fnExactAddSketch", apart := false, narrowed := true }
def FnExactAddSketchUptoSaid : Prop := fnExactAddSketchUptoRow.holds Try.pinned (OpenSpec.upto fnExactAddSketchSpec)

/-- 'laws.FnExactGoodHeavy', WHERE WHAT IT READS IS OF BULK AT MOST 1048576: true; the input reads as it did. -/
def fnExactGoodHeavyUptoRow : OpenClaim := { program := "ytkedbbaphkcdjaa", sum := "f7c2883cef354eacb5a07f08a18614d7edacea27fb0ad13d99c458874dd3edff", func := "loop.example/g00522/laws.FnExactGoodHeavy", spec := "fnExactGoodHeavy", apart := false, narrowed := true }
def FnExactGoodHeavyUptoSaid : Prop := fnExactGoodHeavyUptoRow.holds Try.pinned (OpenSpec.upto fnExactGoodHeavySpec)

/-- 'laws.FnExactLeastOf', WHERE WHAT IT READS IS OF BULK AT MOST 1048576: true; the input reads as it did. -/
def fnExactLeastOfUptoRow : OpenClaim := { program := "ytkedbbaphkcdjaa", sum := "f7c2883cef354eacb5a07f08a18614d7edacea27fb0ad13d99c458874dd3edff", func := "loop.example/g00522/laws.FnExactLeastOf", spec := "fnExactLeastOf", apart := false, narrowed := true }
def FnExactLeastOfUptoSaid : Prop := fnExactLeastOfUptoRow.holds Try.pinned (OpenSpec.upto fnExactLeastOfSpec)

end Rows
end Go.Proofs.Ytkedbbaphkcdjaa
