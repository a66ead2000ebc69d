/-
  No cell of these rows narrows 'for every input' (looked for: loops, veiled, ifaces, maps, wideKeys, modest, calm, conditions, laid).
  DERIVED. THE GIVEN ROWS OF THIS SEAT. 6 by the template 'for every input the law returns true; each argument reads behind the call as it read before'; 0 by the template 'total and deterministic' (their statements: YtnppcdiicnofpaaTotals.lean).
  GIVEN WITH THE SEED: the statements are not yours to turn. If you find one false, say at which input.
  Laid BY PROGRAM, IN A SANDBOX (cutbox-rows.mjs): the forced cells as the released guide's own fill.sh prints them over the translation c76f7c39d30a4142… (all of the seat's roots in one cut). By AI agents, Wed Nov 11 2026. No macro, syntax, notation, axiom, sorry.
-/
import Derived.Test.YtnppcdiicnofpaaChecked
import GoSem.Claim
import GoSem.ClaimJoined
import GoSem.ClaimMapViews
import Derived.JoinedTies
import Derived.KernelRfl
namespace Go.Proofs.Ytnppcdiicnofpaa
/- THE CELL 'sum', in the pinned program and in every row, IS THE sha256 OF THE DUMP (.gsa) THAT YtnppcdiicnofpaaProg.lean LOADS. Nothing in Lean hashes anything: it is a label: what it is worth is what the hold of that sum in a sandbox is worth. -/
noncomputable def Try.pinned : Pinned := { name := "ytnppcdiicnofpaa", sum := "c76f7c39d30a41424395b125791192a5fc6ac984c9ed3a7dd2bc1ef8da67b6f8", checked := Try.checked }
namespace Rows
def none {H : Type} : Left H := { results := [], args := [] }

/-- 'laws.FnExactValuesOf': WHATEVER THE INPUT: true; the input reads as it did. -/
def fnExactValuesOfSpec : ChangeSpec := { name := "fnExactValuesOf", fn := fun _ => fun
  | [d1, d2] => { results := [.lit (.bool true)], args := [d1, d2] }
  | _ => none }
def fnExactValuesOfRow : OpenClaim := { program := "ytnppcdiicnofpaa", sum := "c76f7c39d30a41424395b125791192a5fc6ac984c9ed3a7dd2bc1ef8da67b6f8", func := "loop.example/g00522/laws.FnExactValuesOf", spec := "fnExactValuesOf", inPlace := ["internal/abi.NoEscape", "internal/bytealg.MakeNoZero"], apart := false }
def FnExactValuesOfSaid : Prop := fnExactValuesOfRow.holds Try.pinned (OpenSpec.ofChange fnExactValuesOfSpec)

/-- ITS FALSE NEIGHBOUR: 'it returns false'. Refute it at one input. -/
def fnExactValuesOfWrong : ChangeSpec := { name := "fnExactValuesOf", fn := fun _ => fun
  | [d1, d2] => { results := [.lit (.bool false)], args := [d1, d2] }
  | _ => none }
def FnExactValuesOfWrongFalsely : Prop := fnExactValuesOfRow.holds Try.pinned (OpenSpec.ofChange fnExactValuesOfWrong)

/-- 'laws.FnExactTopOf': WHATEVER THE INPUT: true; the input reads as it did. -/
def fnExactTopOfSpec : ChangeSpec := { name := "fnExactTopOf", fn := fun _ => fun
  | [d1, d2, d3] => { results := [.lit (.bool true)], args := [d1, d2, d3] }
  | _ => none }
def fnExactTopOfRow : OpenClaim := { program := "ytnppcdiicnofpaa", sum := "c76f7c39d30a41424395b125791192a5fc6ac984c9ed3a7dd2bc1ef8da67b6f8", func := "loop.example/g00522/laws.FnExactTopOf", spec := "fnExactTopOf", inPlace := ["internal/abi.NoEscape", "internal/bytealg.MakeNoZero"], unfollowed := true, recurses := true, apart := false }
def FnExactTopOfSaid : Prop := fnExactTopOfRow.holds Try.pinned (OpenSpec.ofChange fnExactTopOfSpec)

/-- ITS FALSE NEIGHBOUR: 'it returns false'. Refute it at one input. -/
def fnExactTopOfWrong : ChangeSpec := { name := "fnExactTopOf", fn := fun _ => fun
  | [d1, d2, d3] => { results := [.lit (.bool false)], args := [d1, d2, d3] }
  | _ => none }
def FnExactTopOfWrongFalsely : Prop := fnExactTopOfRow.holds Try.pinned (OpenSpec.ofChange fnExactTopOfWrong)

/-- 'laws.FnExactMergeTotals': WHATEVER THE INPUT: true; the input reads as it did. -/
def fnExactMergeTotalsSpec : ChangeSpec := { name := "fnExactMergeTotals", fn := fun _ => fun
  | [d1, d2] => { results := [.lit (.bool true)], args := [d1, d2] }
  | _ => none }
def fnExactMergeTotalsRow : OpenClaim := { program := "ytnppcdiicnofpaa", sum := "c76f7c39d30a41424395b125791192a5fc6ac984c9ed3a7dd2bc1ef8da67b6f8", func := "loop.example/g00522/laws.FnExactMergeTotals", spec := "fnExactMergeTotals", inPlace := ["internal/abi.NoEscape", "internal/bytealg.MakeNoZero", "internal/bytealg.abigen_runtime_cmpstring", "slices.overlaps[loop.example/g00522/impl.Total]"], unfollowed := true, recurses := true, apart := false }
def FnExactMergeTotalsSaid : Prop := fnExactMergeTotalsRow.holds Try.pinned (OpenSpec.ofChange fnExactMergeTotalsSpec)

/-- ITS FALSE NEIGHBOUR: 'it returns false'. Refute it at one input. -/
def fnExactMergeTotalsWrong : ChangeSpec := { name := "fnExactMergeTotals", fn := fun _ => fun
  | [d1, d2] => { results := [.lit (.bool false)], args := [d1, d2] }
  | _ => none }
def FnExactMergeTotalsWrongFalsely : Prop := fnExactMergeTotalsRow.holds Try.pinned (OpenSpec.ofChange fnExactMergeTotalsWrong)

/-- 'laws.FnTotals': WHATEVER THE INPUT: true; the input reads as it did. -/
def fnTotalsSpec : ChangeSpec := { name := "fnTotals", fn := fun _ => fun
  | [d1, d2] => { results := [.lit (.bool true)], args := [d1, d2] }
  | _ => none }
def fnTotalsRow : OpenClaim := { program := "ytnppcdiicnofpaa", sum := "c76f7c39d30a41424395b125791192a5fc6ac984c9ed3a7dd2bc1ef8da67b6f8", func := "loop.example/g00522/laws.FnTotals", spec := "fnTotals", inPlace := ["internal/abi.NoEscape", "internal/bytealg.MakeNoZero", "internal/bytealg.abigen_runtime_cmpstring", "slices.overlaps[loop.example/g00522/impl.Total]"], unfollowed := true, recurses := true, apart := false }
def FnTotalsSaid : Prop := fnTotalsRow.holds Try.pinned (OpenSpec.ofChange fnTotalsSpec)

/-- ITS FALSE NEIGHBOUR: 'it returns false'. Refute it at one input. -/
def fnTotalsWrong : ChangeSpec := { name := "fnTotals", fn := fun _ => fun
  | [d1, d2] => { results := [.lit (.bool false)], args := [d1, d2] }
  | _ => none }
def FnTotalsWrongFalsely : Prop := fnTotalsRow.holds Try.pinned (OpenSpec.ofChange fnTotalsWrong)

/-- 'laws.FnExactCoarseTotals': WHATEVER THE INPUT: true; the input reads as it did. -/
def fnExactCoarseTotalsSpec : ChangeSpec := { name := "fnExactCoarseTotals", fn := fun _ => fun
  | [d1, d2] => { results := [.lit (.bool true)], args := [d1, d2] }
  | _ => none }
def fnExactCoarseTotalsRow : OpenClaim := { program := "ytnppcdiicnofpaa", sum := "c76f7c39d30a41424395b125791192a5fc6ac984c9ed3a7dd2bc1ef8da67b6f8", func := "loop.example/g00522/laws.FnExactCoarseTotals", spec := "fnExactCoarseTotals", inPlace := ["internal/abi.NoEscape", "internal/bytealg.MakeNoZero", "internal/bytealg.abigen_runtime_cmpstring", "slices.overlaps[loop.example/g00522/impl.Total]"], unfollowed := true, recurses := true, apart := false }
def FnExactCoarseTotalsSaid : Prop := fnExactCoarseTotalsRow.holds Try.pinned (OpenSpec.ofChange fnExactCoarseTotalsSpec)

/-- ITS FALSE NEIGHBOUR: 'it returns false'. Refute it at one input. -/
def fnExactCoarseTotalsWrong : ChangeSpec := { name := "fnExactCoarseTotals", fn := fun _ => fun
  | [d1, d2] => { results := [.lit (.bool false)], args := [d1, d2] }
  | _ => none }
def FnExactCoarseTotalsWrongFalsely : Prop := fnExactCoarseTotalsRow.holds Try.pinned (OpenSpec.ofChange fnExactCoarseTotalsWrong)

/-- 'laws.FnExactTotalsBy': WHATEVER THE INPUT: true; the input reads as it did. -/
def fnExactTotalsBySpec : ChangeSpec := { name := "fnExactTotalsBy", fn := fun _ => fun
  | [d1, d2] => { results := [.lit (.bool true)], args := [d1, d2] }
  | _ => none }
def fnExactTotalsByRow : OpenClaim := { program := "ytnppcdiicnofpaa", sum := "c76f7c39d30a41424395b125791192a5fc6ac984c9ed3a7dd2bc1ef8da67b6f8", func := "loop.example/g00522/laws.FnExactTotalsBy", spec := "fnExactTotalsBy", inPlace := ["internal/abi.NoEscape", "internal/bytealg.MakeNoZero", "internal/bytealg.abigen_runtime_cmpstring", "slices.overlaps[loop.example/g00522/impl.Total]"], unfollowed := true, recurses := true, apart := false }
def FnExactTotalsBySaid : Prop := fnExactTotalsByRow.holds Try.pinned (OpenSpec.ofChange fnExactTotalsBySpec)

/-- ITS FALSE NEIGHBOUR: 'it returns false'. Refute it at one input. -/
def fnExactTotalsByWrong : ChangeSpec := { name := "fnExactTotalsBy", fn := fun _ => fun
  | [d1, d2] => { results := [.lit (.bool false)], args := [d1, d2] }
  | _ => none }
def FnExactTotalsByWrongFalsely : Prop := fnExactTotalsByRow.holds Try.pinned (OpenSpec.ofChange fnExactTotalsByWrong)

/- THE SECOND FORM. 'bulk': how many values and letters a reading holds, each counted each time it is reached (what is shared counts as often as it is met; a slice's spare places count too). A statement '..UptoSaid' is the law's where the arguments, and the package variables that the reading takes, are together of bulk at most 1048576: NARROWER than '..Said'. Prove '..Said' where nothing that the law and all that it calls make is longer than what came in: it says more and counts as full. Else prove '..UptoSaid'. A law counts once. -/
mutual
def uptoBulk {H : Type} : DataW H → Nat
  | .lit (.string bytes) => bytes.length + 1
  | .lit _ => 1
  | .nil => 1
  | .ptr d => uptoBulk d + 1
  | .slice elems spare => uptoBulkAll elems + uptoBulkAll spare + 1
  | .agg parts => uptoBulkAll parts + 1
  | .iface _ d => uptoBulk d + 1
  | .map entries => uptoBulkEntries entries + 1
  | .held _ => 1
def uptoBulkAll {H : Type} : List (DataW H) → Nat
  | [] => 0
  | d :: r => uptoBulk d + uptoBulkAll r
def uptoBulkEntries {H : Type} : List (Lit × DataW H) → Nat
  | [] => 0
  | x :: r => uptoBulkEntry x + uptoBulkEntries r
def uptoBulkEntry {H : Type} : Lit × DataW H → Nat
  | (.string bytes, d) => bytes.length + uptoBulk d + 1
  | (_, d) => uptoBulk d + 1
 end
def uptoSmall : (H : Type) → List (DataW H) → Bool := fun _ ds => decide (uptoBulkAll ds ≤ 1048576)
def OpenSpec.upto (s : _root_.Go.ChangeSpec) : _root_.Go.OpenSpec := { _root_.Go.OpenSpec.ofChange s with cond := some uptoSmall }

/-- 'laws.FnExactValuesOf', WHERE WHAT IT READS IS OF BULK AT MOST 1048576: true; the input reads as it did. -/
def fnExactValuesOfUptoRow : OpenClaim := { program := "ytnppcdiicnofpaa", sum := "c76f7c39d30a41424395b125791192a5fc6ac984c9ed3a7dd2bc1ef8da67b6f8", func := "loop.example/g00522/laws.FnExactValuesOf", spec := "fnExactValuesOf", inPlace := ["internal/abi.NoEscape", "internal/bytealg.MakeNoZero"], apart := false, narrowed := true }
def FnExactValuesOfUptoSaid : Prop := fnExactValuesOfUptoRow.holds Try.pinned (OpenSpec.upto fnExactValuesOfSpec)

/-- 'laws.FnExactTopOf', WHERE WHAT IT READS IS OF BULK AT MOST 1048576: true; the input reads as it did. -/
def fnExactTopOfUptoRow : OpenClaim := { program := "ytnppcdiicnofpaa", sum := "c76f7c39d30a41424395b125791192a5fc6ac984c9ed3a7dd2bc1ef8da67b6f8", func := "loop.example/g00522/laws.FnExactTopOf", spec := "fnExactTopOf", inPlace := ["internal/abi.NoEscape", "internal/bytealg.MakeNoZero"], unfollowed := true, recurses := true, apart := false, narrowed := true }
def FnExactTopOfUptoSaid : Prop := fnExactTopOfUptoRow.holds Try.pinned (OpenSpec.upto fnExactTopOfSpec)

/-- 'laws.FnExactMergeTotals', WHERE WHAT IT READS IS OF BULK AT MOST 1048576: true; the input reads as it did. -/
def fnExactMergeTotalsUptoRow : OpenClaim := { program := "ytnppcdiicnofpaa", sum := "c76f7c39d30a41424395b125791192a5fc6ac984c9ed3a7dd2bc1ef8da67b6f8", func := "loop.example/g00522/laws.FnExactMergeTotals", spec := "fnExactMergeTotals", inPlace := ["internal/abi.NoEscape", "internal/bytealg.MakeNoZero", "internal/bytealg.abigen_runtime_cmpstring", "slices.overlaps[loop.example/g00522/impl.Total]"], unfollowed := true, recurses := true, apart := false, narrowed := true }
def FnExactMergeTotalsUptoSaid : Prop := fnExactMergeTotalsUptoRow.holds Try.pinned (OpenSpec.upto fnExactMergeTotalsSpec)

/-- 'laws.FnTotals', WHERE WHAT IT READS IS OF BULK AT MOST 1048576: true; the input reads as it did. -/
def fnTotalsUptoRow : OpenClaim := { program := "ytnppcdiicnofpaa", sum := "c76f7c39d30a41424395b125791192a5fc6ac984c9ed3a7dd2bc1ef8da67b6f8", func := "loop.example/g00522/laws.FnTotals", spec := "fnTotals", inPlace := ["internal/abi.NoEscape", "internal/bytealg.MakeNoZero", "internal/bytealg.abigen_runtime_cmpstring", "slices.overlaps[loop.example/g00522/impl.Total]"], unfollowed := true, recurses := true, apart := false, narrowed := true }
def FnTotalsUptoSaid : Prop := fnTotalsUptoRow.holds Try.pinned (OpenSpec.upto fnTotalsSpec)

/-- 'laws.FnExactCoarseTotals', WHERE WHAT IT READS IS OF BULK AT MOST 1048576: true; the input reads as it did. -/
def fnExactCoarseTotalsUptoRow : OpenClaim := { program := "ytnppcdiicnofpaa", sum := "c76f7c39d30a41424395b125791192a5fc6ac984c9ed3a7dd2bc1ef8da67b6f8", func := "loop.example/g00522/laws.FnExactCoarseTotals", spec := "fnExactCoarseTotals", inPlace := ["internal/abi.NoEscape", "internal/bytealg.MakeNoZero", "internal/bytealg.abigen_runtime_cmpstring", "slices.overlaps[loop.example/g00522/impl.Total]"], unfollowed := true, recurses := true, apart := false, narrowed := true }
def FnExactCoarseTotalsUptoSaid : Prop := fnExactCoarseTotalsUptoRow.holds Try.pinned (OpenSpec.upto fnExactCoarseTotalsSpec)

/-- 'laws.FnExactTotalsBy', WHERE WHAT IT READS IS OF BULK AT MOST 1048576: true; the input reads as it did. -/
def fnExactTotalsByUptoRow : OpenClaim := { program := "ytnppcdiicnofpaa", sum := "c76f7c39d30a41424395b125791192a5fc6ac984c9ed3a7dd2bc1ef8da67b6f8", func := "loop.example/g00522/laws.FnExactTotalsBy", spec := "fnExactTotalsBy", inPlace := ["internal/abi.NoEscape", "internal/bytealg.MakeNoZero", "internal/bytealg.abigen_runtime_cmpstring", "slices.overlaps[loop.example/g00522/impl.Total]"], unfollowed := true, recurses := true, apart := false, narrowed := true }
def FnExactTotalsByUptoSaid : Prop := fnExactTotalsByUptoRow.holds Try.pinned (OpenSpec.upto fnExactTotalsBySpec)

end Rows
end Go.Proofs.Ytnppcdiicnofpaa
