/-
  No cell of these rows narrows 'for every input' (looked for: loops, veiled, ifaces, maps, wideKeys, modest, calm, conditions, laid).
  DERIVED. THE GIVEN ROWS OF THIS SEAT. 5 by the template 'for every input the law returns true; each argument reads behind the call as it read before'; 0 by the template 'total and deterministic' (their statements: YtjmcbggdckfefaaTotals.lean).
  GIVEN WITH THE SEED: the statements are not yours to turn. If you find one false, say at which input.
  Laid BY PROGRAM, IN A SANDBOX (cutbox-rows.mjs): the forced cells as the released guide's own fill.sh prints them over the translation 3c6918cfbf71839d… (all of the seat's roots in one cut). By AI agents, Wed Nov 11 2026. No macro, syntax, notation, axiom, sorry.
-/
import Derived.Test.YtjmcbggdckfefaaChecked
import GoSem.Claim
import GoSem.ClaimJoined
import GoSem.ClaimMapViews
import Derived.JoinedTies
import Derived.KernelRfl
namespace Go.Proofs.Ytjmcbggdckfefaa
/- THE CELL 'sum', in the pinned program and in every row, IS THE sha256 OF THE DUMP (.gsa) THAT YtjmcbggdckfefaaProg.lean LOADS. Nothing in Lean hashes anything: it is a label: what it is worth is what the hold of that sum in a sandbox is worth. -/
noncomputable def Try.pinned : Pinned := { name := "ytjmcbggdckfefaa", sum := "3c6918cfbf71839da81b37e69ec7ec440d9d5e2107dc4982c553b727ddd9b5a7", checked := Try.checked }
namespace Rows
def none {H : Type} : Left H := { results := [], args := [] }

/-- 'laws.FnExactJoinSketches': WHATEVER THE INPUT: true; the input reads as it did. -/
def fnExactJoinSketchesSpec : ChangeSpec := { name := "fnExactJoinSketches", fn := fun _ => fun
  | [d1, d2] => { results := [.lit (.bool true)], args := [d1, d2] }
  | _ => none }
def fnExactJoinSketchesRow : OpenClaim := { program := "ytjmcbggdckfefaa", sum := "3c6918cfbf71839da81b37e69ec7ec440d9d5e2107dc4982c553b727ddd9b5a7", func := "loop.example/g00522/laws.FnExactJoinSketches", spec := "fnExactJoinSketches", apart := false }
def FnExactJoinSketchesSaid : Prop := fnExactJoinSketchesRow.holds Try.pinned (OpenSpec.ofChange fnExactJoinSketchesSpec)

/-- ITS FALSE NEIGHBOUR: 'it returns false'. Refute it at one input. -/
def fnExactJoinSketchesWrong : ChangeSpec := { name := "fnExactJoinSketches", fn := fun _ => fun
  | [d1, d2] => { results := [.lit (.bool false)], args := [d1, d2] }
  | _ => none }
def FnExactJoinSketchesWrongFalsely : Prop := fnExactJoinSketchesRow.holds Try.pinned (OpenSpec.ofChange fnExactJoinSketchesWrong)

/-- 'laws.FnExactAddHeavy': WHATEVER THE INPUT: true; the input reads as it did. -/
def fnExactAddHeavySpec : ChangeSpec := { name := "fnExactAddHeavy", fn := fun _ => fun
  | [d1, d2] => { results := [.lit (.bool true)], args := [d1, d2] }
  | _ => none }
def fnExactAddHeavyRow : OpenClaim := { program := "ytjmcbggdckfefaa", sum := "3c6918cfbf71839da81b37e69ec7ec440d9d5e2107dc4982c553b727ddd9b5a7", func := "loop.example/g00522/laws.FnExactAddHeavy", spec := "fnExactAddHeavy", inPlace := ["slices.overlaps[string]", "slices.overlaps[int]"], apart := false }
def FnExactAddHeavySaid : Prop := fnExactAddHeavyRow.holds Try.pinned (OpenSpec.ofChange fnExactAddHeavySpec)

/-- ITS FALSE NEIGHBOUR: 'it returns false'. Refute it at one input. -/
def fnExactAddHeavyWrong : ChangeSpec := { name := "fnExactAddHeavy", fn := fun _ => fun
  | [d1, d2] => { results := [.lit (.bool false)], args := [d1, d2] }
  | _ => none }
def FnExactAddHeavyWrongFalsely : Prop := fnExactAddHeavyRow.holds Try.pinned (OpenSpec.ofChange fnExactAddHeavyWrong)

/-- 'laws.FnExactFeedHeavy': WHATEVER THE INPUT: true; the input reads as it did. -/
def fnExactFeedHeavySpec : ChangeSpec := { name := "fnExactFeedHeavy", fn := fun _ => fun
  | [d1, d2] => { results := [.lit (.bool true)], args := [d1, d2] }
  | _ => none }
def fnExactFeedHeavyRow : OpenClaim := { program := "ytjmcbggdckfefaa", sum := "3c6918cfbf71839da81b37e69ec7ec440d9d5e2107dc4982c553b727ddd9b5a7", func := "loop.example/g00522/laws.FnExactFeedHeavy", spec := "fnExactFeedHeavy", inPlace := ["slices.overlaps[string]", "slices.overlaps[int]"], apart := false }
def FnExactFeedHeavySaid : Prop := fnExactFeedHeavyRow.holds Try.pinned (OpenSpec.ofChange fnExactFeedHeavySpec)

/-- ITS FALSE NEIGHBOUR: 'it returns false'. Refute it at one input. -/
def fnExactFeedHeavyWrong : ChangeSpec := { name := "fnExactFeedHeavy", fn := fun _ => fun
  | [d1, d2] => { results := [.lit (.bool false)], args := [d1, d2] }
  | _ => none }
def FnExactFeedHeavyWrongFalsely : Prop := fnExactFeedHeavyRow.holds Try.pinned (OpenSpec.ofChange fnExactFeedHeavyWrong)

/-- 'laws.FnSketch': WHATEVER THE INPUT: true; the input reads as it did. -/
def fnSketchSpec : ChangeSpec := { name := "fnSketch", fn := fun _ => fun
  | [d1, d2] => { results := [.lit (.bool true)], args := [d1, d2] }
  | _ => none }
def fnSketchRow : OpenClaim := { program := "ytjmcbggdckfefaa", sum := "3c6918cfbf71839da81b37e69ec7ec440d9d5e2107dc4982c553b727ddd9b5a7", func := "loop.example/g00522/laws.FnSketch", spec := "fnSketch", apart := false }
def FnSketchSaid : Prop := fnSketchRow.holds Try.pinned (OpenSpec.ofChange fnSketchSpec)

/-- ITS FALSE NEIGHBOUR: 'it returns false'. Refute it at one input. -/
def fnSketchWrong : ChangeSpec := { name := "fnSketch", fn := fun _ => fun
  | [d1, d2] => { results := [.lit (.bool false)], args := [d1, d2] }
  | _ => none }
def FnSketchWrongFalsely : Prop := fnSketchRow.holds Try.pinned (OpenSpec.ofChange fnSketchWrong)

/-- 'laws.FnHeavy': WHATEVER THE INPUT: true; the input reads as it did. -/
def fnHeavySpec : ChangeSpec := { name := "fnHeavy", fn := fun _ => fun
  | [d1, d2] => { results := [.lit (.bool true)], args := [d1, d2] }
  | _ => none }
def fnHeavyRow : OpenClaim := { program := "ytjmcbggdckfefaa", sum := "3c6918cfbf71839da81b37e69ec7ec440d9d5e2107dc4982c553b727ddd9b5a7", func := "loop.example/g00522/laws.FnHeavy", spec := "fnHeavy", inPlace := ["slices.overlaps[string]", "slices.overlaps[int]"], apart := false }
def FnHeavySaid : Prop := fnHeavyRow.holds Try.pinned (OpenSpec.ofChange fnHeavySpec)

/-- ITS FALSE NEIGHBOUR: 'it returns false'. Refute it at one input. -/
def fnHeavyWrong : ChangeSpec := { name := "fnHeavy", fn := fun _ => fun
  | [d1, d2] => { results := [.lit (.bool false)], args := [d1, d2] }
  | _ => none }
def FnHeavyWrongFalsely : Prop := fnHeavyRow.holds Try.pinned (OpenSpec.ofChange fnHeavyWrong)

/- THE SECOND FORM. 'bulk': how many values and letters a reading holds, each counted each time it is reached (what is shared counts as often as it is met; a slice's spare places count too). A statement '..UptoSaid' is the law's where the arguments, and the package variables that the reading takes, are together of bulk at most 1048576: NARROWER than '..Said'. Prove '..Said' where nothing that the law and all that it calls make is longer than what came in: it says more and counts as full. Else prove '..UptoSaid'. A law counts once. -/
mutual
def uptoBulk {H : Type} : DataW H → Nat
  | .lit (.string bytes) => bytes.length + 1
  | .lit _ => 1
  | .nil => 1
  | .ptr d => uptoBulk d + 1
  | .slice elems spare => uptoBulkAll elems + uptoBulkAll spare + 1
  | .agg parts => uptoBulkAll parts + 1
  | .iface _ d => uptoBulk d + 1
  | .map entries => uptoBulkEntries entries + 1
  | .held _ => 1
def uptoBulkAll {H : Type} : List (DataW H) → Nat
  | [] => 0
  | d :: r => uptoBulk d + uptoBulkAll r
def uptoBulkEntries {H : Type} : List (Lit × DataW H) → Nat
  | [] => 0
  | x :: r => uptoBulkEntry x + uptoBulkEntries r
def uptoBulkEntry {H : Type} : Lit × DataW H → Nat
  | (.string bytes, d) => bytes.length + uptoBulk d + 1
  | (_, d) => uptoBulk d + 1
 end
def uptoSmall : (H : Type) → List (DataW H) → Bool := fun _ ds => decide (uptoBulkAll ds ≤ 1048576)
def OpenSpec.upto (s : _root_.Go.ChangeSpec) : _root_.Go.OpenSpec := { _root_.Go.OpenSpec.ofChange s with cond := some uptoSmall }

/-- 'laws.FnExactJoinSketches', WHERE WHAT IT READS IS OF BULK AT MOST 1048576: true; the input reads as it did. -/
def fnExactJoinSketchesUptoRow : OpenClaim := { program := "ytjmcbggdckfefaa", sum := "3c6918cfbf71839da81b37e69ec7ec440d9d5e2107dc4982c553b727ddd9b5a7", func := "loop.example/g00522/laws.FnExactJoinSketches", spec := "fnExactJoinSketches", apart := false, narrowed := true }
def FnExactJoinSketchesUptoSaid : Prop := fnExactJoinSketchesUptoRow.holds Try.pinned (OpenSpec.upto fnExactJoinSketchesSpec)

/-- 'laws.FnExactAddHeavy', WHERE WHAT IT READS IS OF BULK AT MOST 1048576: true; the input reads as it did. -/
def fnExactAddHeavyUptoRow : OpenClaim := { program := "ytjmcbggdckfefaa", sum := "3c6918cfbf71839da81b37e69ec7ec440d9d5e2107dc4982c553b727ddd9b5a7", func := "loop.example/g00522/laws.FnExactAddHeavy", spec := "fnExactAddHeavy", inPlace := ["slices.overlaps[string]", "slices.overlaps[int]"], apart := false, narrowed := true }
def FnExactAddHeavyUptoSaid : Prop := fnExactAddHeavyUptoRow.holds Try.pinned (OpenSpec.upto fnExactAddHeavySpec)

/-- 'laws.FnExactFeedHeavy', WHERE WHAT IT READS IS OF BULK AT MOST 1048576: true; the input reads as it did. -/
def fnExactFeedHeavyUptoRow : OpenClaim := { program := "ytjmcbggdckfefaa", sum := "3c6918cfbf71839da81b37e69ec7ec440d9d5e2107dc4982c553b727ddd9b5a7", func := "loop.example/g00522/laws.FnExactFeedHeavy", spec := "fnExactFeedHeavy", inPlace := ["slices.overlaps[string]", "slices.overlaps[int]"], apart := false, narrowed := true }
def FnExactFeedHeavyUptoSaid : Prop := fnExactFeedHeavyUptoRow.holds Try.pinned (OpenSpec.upto fnExactFeedHeavySpec)

/-- 'laws.FnSketch', WHERE WHAT IT READS IS OF BULK AT MOST 1048576: true; the input reads as it did. -/
def fnSketchUptoRow : OpenClaim := { program := "ytjmcbggdckfefaa", sum := "3c6918cfbf71839da81b37e69ec7ec440d9d5e2107dc4982c553b727ddd9b5a7", func := "loop.example/g00522/laws.FnSketch", spec := "fnSketch", apart := false, narrowed := true }
def FnSketchUptoSaid : Prop := fnSketchUptoRow.holds Try.pinned (OpenSpec.upto fnSketchSpec)

/-- 'laws.FnHeavy', WHERE WHAT IT READS IS OF BULK AT MOST 1048576: true; the input reads as it did. -/
def fnHeavyUptoRow : OpenClaim := { program := "ytjmcbggdckfefaa", sum := "3c6918cfbf71839da81b37e69ec7ec440d9d5e2107dc4982c553b727ddd9b5a7", func := "loop.example/g00522/laws.FnHeavy", spec := "fnHeavy", inPlace := ["slices.overlaps[string]", "slices.overlaps[int]"], apart := false, narrowed := true }
def FnHeavyUptoSaid : Prop := fnHeavyUptoRow.holds Try.pinned (OpenSpec.upto fnHeavySpec)

end Rows
end Go.Proofs.Ytjmcbggdckfefaa
