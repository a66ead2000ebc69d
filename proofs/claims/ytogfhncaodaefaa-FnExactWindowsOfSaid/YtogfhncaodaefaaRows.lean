/-
  No cell of these rows narrows 'for every input' (looked for: loops, veiled, ifaces, maps, wideKeys, modest, calm, conditions, laid).
  DERIVED. THE GIVEN ROWS OF THIS SEAT. 6 by the template 'for every input the law returns true; each argument reads behind the call as it read before'; 0 by the template 'total and deterministic' (their statements: YtogfhncaodaefaaTotals.lean).
  GIVEN WITH THE SEED: the statements are not yours to turn. If you find one false, say at which input.
  Laid BY PROGRAM, IN A SANDBOX (cutbox-rows.mjs): the forced cells as the released guide's own fill.sh prints them over the translation 1c186c7667e84fed… (all of the seat's roots in one cut). By AI agents, Wed Nov 11 2026. No macro, syntax, notation, axiom, sorry.
-/
import Derived.Test.YtogfhncaodaefaaChecked
import GoSem.Claim
import GoSem.ClaimJoined
import GoSem.ClaimMapViews
import Derived.JoinedTies
import Derived.KernelRfl
namespace Go.Proofs.Ytogfhncaodaefaa
/- THE CELL 'sum', in the pinned program and in every row, IS THE sha256 OF THE DUMP (.gsa) THAT YtogfhncaodaefaaProg.lean LOADS. Nothing in Lean hashes anything: it is a label: what it is worth is what the hold of that sum in a sandbox is worth. -/
noncomputable def Try.pinned : Pinned := { name := "ytogfhncaodaefaa", sum := "1c186c7667e84fedb772c9c9def0ca395190d6e80d32b7738d0253a98b9eaf6c", checked := Try.checked }
namespace Rows
def none {H : Type} : Left H := { results := [], args := [] }

/-- 'laws.FnExactRiseOf': WHATEVER THE INPUT: true; the input reads as it did. -/
def fnExactRiseOfSpec : ChangeSpec := { name := "fnExactRiseOf", fn := fun _ => fun
  | [d] => { results := [.lit (.bool true)], args := [d] }
  | _ => none }
def fnExactRiseOfRow : OpenClaim := { program := "ytogfhncaodaefaa", sum := "1c186c7667e84fedb772c9c9def0ca395190d6e80d32b7738d0253a98b9eaf6c", func := "loop.example/g00522/laws.FnExactRiseOf", spec := "fnExactRiseOf", unfollowed := true, recurses := true, apart := false }
def FnExactRiseOfSaid : Prop := fnExactRiseOfRow.holds Try.pinned (OpenSpec.ofChange fnExactRiseOfSpec)

/-- ITS FALSE NEIGHBOUR: 'it returns false'. Refute it at one input. -/
def fnExactRiseOfWrong : ChangeSpec := { name := "fnExactRiseOf", fn := fun _ => fun
  | [d] => { results := [.lit (.bool false)], args := [d] }
  | _ => none }
def FnExactRiseOfWrongFalsely : Prop := fnExactRiseOfRow.holds Try.pinned (OpenSpec.ofChange fnExactRiseOfWrong)

/-- 'laws.FnExactRateOf': WHATEVER THE INPUT: true; the input reads as it did. -/
def fnExactRateOfSpec : ChangeSpec := { name := "fnExactRateOf", fn := fun _ => fun
  | [d1, d2] => { results := [.lit (.bool true)], args := [d1, d2] }
  | _ => none }
def fnExactRateOfRow : OpenClaim := { program := "ytogfhncaodaefaa", sum := "1c186c7667e84fedb772c9c9def0ca395190d6e80d32b7738d0253a98b9eaf6c", func := "loop.example/g00522/laws.FnExactRateOf", spec := "fnExactRateOf", unfollowed := true, recurses := true, apart := false }
def FnExactRateOfSaid : Prop := fnExactRateOfRow.holds Try.pinned (OpenSpec.ofChange fnExactRateOfSpec)

/-- ITS FALSE NEIGHBOUR: 'it returns false'. Refute it at one input. -/
def fnExactRateOfWrong : ChangeSpec := { name := "fnExactRateOf", fn := fun _ => fun
  | [d1, d2] => { results := [.lit (.bool false)], args := [d1, d2] }
  | _ => none }
def FnExactRateOfWrongFalsely : Prop := fnExactRateOfRow.holds Try.pinned (OpenSpec.ofChange fnExactRateOfWrong)

/-- 'laws.FnExactThinOut': WHATEVER THE INPUT: true; the input reads as it did. -/
def fnExactThinOutSpec : ChangeSpec := { name := "fnExactThinOut", fn := fun _ => fun
  | [d] => { results := [.lit (.bool true)], args := [d] }
  | _ => none }
def fnExactThinOutRow : OpenClaim := { program := "ytogfhncaodaefaa", sum := "1c186c7667e84fedb772c9c9def0ca395190d6e80d32b7738d0253a98b9eaf6c", func := "loop.example/g00522/laws.FnExactThinOut", spec := "fnExactThinOut", unfollowed := true, recurses := true, apart := false }
def FnExactThinOutSaid : Prop := fnExactThinOutRow.holds Try.pinned (OpenSpec.ofChange fnExactThinOutSpec)

/-- ITS FALSE NEIGHBOUR: 'it returns false'. Refute it at one input. -/
def fnExactThinOutWrong : ChangeSpec := { name := "fnExactThinOut", fn := fun _ => fun
  | [d] => { results := [.lit (.bool false)], args := [d] }
  | _ => none }
def FnExactThinOutWrongFalsely : Prop := fnExactThinOutRow.holds Try.pinned (OpenSpec.ofChange fnExactThinOutWrong)

/-- 'laws.FnExactFillGaps': WHATEVER THE INPUT: true; the input reads as it did. -/
def fnExactFillGapsSpec : ChangeSpec := { name := "fnExactFillGaps", fn := fun _ => fun
  | [d1, d2] => { results := [.lit (.bool true)], args := [d1, d2] }
  | _ => none }
def fnExactFillGapsRow : OpenClaim := { program := "ytogfhncaodaefaa", sum := "1c186c7667e84fedb772c9c9def0ca395190d6e80d32b7738d0253a98b9eaf6c", func := "loop.example/g00522/laws.FnExactFillGaps", spec := "fnExactFillGaps", unfollowed := true, recurses := true, apart := false }
def FnExactFillGapsSaid : Prop := fnExactFillGapsRow.holds Try.pinned (OpenSpec.ofChange fnExactFillGapsSpec)

/-- ITS FALSE NEIGHBOUR: 'it returns false'. Refute it at one input. -/
def fnExactFillGapsWrong : ChangeSpec := { name := "fnExactFillGaps", fn := fun _ => fun
  | [d1, d2] => { results := [.lit (.bool false)], args := [d1, d2] }
  | _ => none }
def FnExactFillGapsWrongFalsely : Prop := fnExactFillGapsRow.holds Try.pinned (OpenSpec.ofChange fnExactFillGapsWrong)

/-- 'laws.FnExactUnwrap': WHATEVER THE INPUT: true; the input reads as it did. -/
def fnExactUnwrapSpec : ChangeSpec := { name := "fnExactUnwrap", fn := fun _ => fun
  | [d] => { results := [.lit (.bool true)], args := [d] }
  | _ => none }
def fnExactUnwrapRow : OpenClaim := { program := "ytogfhncaodaefaa", sum := "1c186c7667e84fedb772c9c9def0ca395190d6e80d32b7738d0253a98b9eaf6c", func := "loop.example/g00522/laws.FnExactUnwrap", spec := "fnExactUnwrap", unfollowed := true, recurses := true, apart := false }
def FnExactUnwrapSaid : Prop := fnExactUnwrapRow.holds Try.pinned (OpenSpec.ofChange fnExactUnwrapSpec)

/-- ITS FALSE NEIGHBOUR: 'it returns false'. Refute it at one input. -/
def fnExactUnwrapWrong : ChangeSpec := { name := "fnExactUnwrap", fn := fun _ => fun
  | [d] => { results := [.lit (.bool false)], args := [d] }
  | _ => none }
def FnExactUnwrapWrongFalsely : Prop := fnExactUnwrapRow.holds Try.pinned (OpenSpec.ofChange fnExactUnwrapWrong)

/-- 'laws.FnExactWindowsOf': WHATEVER THE INPUT: true; the input reads as it did. -/
def fnExactWindowsOfSpec : ChangeSpec := { name := "fnExactWindowsOf", fn := fun _ => fun
  | [d1, d2] => { results := [.lit (.bool true)], args := [d1, d2] }
  | _ => none }
def fnExactWindowsOfRow : OpenClaim := { program := "ytogfhncaodaefaa", sum := "1c186c7667e84fedb772c9c9def0ca395190d6e80d32b7738d0253a98b9eaf6c", func := "loop.example/g00522/laws.FnExactWindowsOf", spec := "fnExactWindowsOf", unfollowed := true, recurses := true, apart := false }
def FnExactWindowsOfSaid : Prop := fnExactWindowsOfRow.holds Try.pinned (OpenSpec.ofChange fnExactWindowsOfSpec)

/-- ITS FALSE NEIGHBOUR: 'it returns false'. Refute it at one input. -/
def fnExactWindowsOfWrong : ChangeSpec := { name := "fnExactWindowsOf", fn := fun _ => fun
  | [d1, d2] => { results := [.lit (.bool false)], args := [d1, d2] }
  | _ => none }
def FnExactWindowsOfWrongFalsely : Prop := fnExactWindowsOfRow.holds Try.pinned (OpenSpec.ofChange fnExactWindowsOfWrong)

/- THE SECOND FORM. 'bulk': how many values and letters a reading holds, each counted each time it is reached (what is shared counts as often as it is met; a slice's spare places count too). A statement '..UptoSaid' is the law's where the arguments, and the package variables that the reading takes, are together of bulk at most 1048576: NARROWER than '..Said'. Prove '..Said' where nothing that the law and all that it calls make is longer than what came in: it says more and counts as full. Else prove '..UptoSaid'. A law counts once. -/
mutual
def uptoBulk {H : Type} : DataW H → Nat
  | .lit (.string bytes) => bytes.length + 1
  | .lit _ => 1
  | .nil => 1
  | .ptr d => uptoBulk d + 1
  | .slice elems spare => uptoBulkAll elems + uptoBulkAll spare + 1
  | .agg parts => uptoBulkAll parts + 1
  | .iface _ d => uptoBulk d + 1
  | .map entries => uptoBulkEntries entries + 1
  | .held _ => 1
def uptoBulkAll {H : Type} : List (DataW H) → Nat
  | [] => 0
  | d :: r => uptoBulk d + uptoBulkAll r
def uptoBulkEntries {H : Type} : List (Lit × DataW H) → Nat
  | [] => 0
  | x :: r => uptoBulkEntry x + uptoBulkEntries r
def uptoBulkEntry {H : Type} : Lit × DataW H → Nat
  | (.string bytes, d) => bytes.length + uptoBulk d + 1
  | (_, d) => uptoBulk d + 1
 end
def uptoSmall : (H : Type) → List (DataW H) → Bool := fun _ ds => decide (uptoBulkAll ds ≤ 1048576)
def OpenSpec.upto (s : _root_.Go.ChangeSpec) : _root_.Go.OpenSpec := { _root_.Go.OpenSpec.ofChange s with cond := some uptoSmall }

/-- 'laws.FnExactRiseOf', WHERE WHAT IT READS IS OF BULK AT MOST 1048576: true; the input reads as it did. -/
def fnExactRiseOfUptoRow : OpenClaim := { program := "ytogfhncaodaefaa", sum := "1c186c7667e84fedb772c9c9def0ca395190d6e80d32b7738d0253a98b9eaf6c", func := "loop.example/g00522/laws.FnExactRiseOf", spec := "fnExactRiseOf", unfollowed := true, recurses := true, apart := false, narrowed := true }
def FnExactRiseOfUptoSaid : Prop := fnExactRiseOfUptoRow.holds Try.pinned (OpenSpec.upto fnExactRiseOfSpec)

/-- 'laws.FnExactRateOf', WHERE WHAT IT READS IS OF BULK AT MOST 1048576: true; the input reads as it did. -/
def fnExactRateOfUptoRow : OpenClaim := { program := "ytogfhncaodaefaa", sum := "1c186c7667e84fedb772c9c9def0ca395190d6e80d32b7738d0253a98b9eaf6c", func := "loop.example/g00522/laws.FnExactRateOf", spec := "fnExactRateOf", unfollowed := true, recurses := true, apart := false, narrowed := true }
def FnExactRateOfUptoSaid : Prop := fnExactRateOfUptoRow.holds Try.pinned (OpenSpec.upto fnExactRateOfSpec)

/-- 'laws.FnExactThinOut', WHERE WHAT IT READS IS OF BULK AT MOST 1048576: true; the input reads as it did. -/
def fnExactThinOutUptoRow : OpenClaim := { program := "ytogfhncaodaefaa", sum := "1c186c7667e84fedb772c9c9def0ca395190d6e80d32b7738d0253a98b9eaf6c", func := "loop.example/g00522/laws.FnExactThinOut", spec := "fnExactThinOut", unfollowed := true, recurses := true, apart := false, narrowed := true }
def FnExactThinOutUptoSaid : Prop := fnExactThinOutUptoRow.holds Try.pinned (OpenSpec.upto fnExactThinOutSpec)

/-- 'laws.FnExactFillGaps', WHERE WHAT IT READS IS OF BULK AT MOST 1048576: true; the input reads as it did. -/
def fnExactFillGapsUptoRow : OpenClaim := { program := "ytogfhncaodaefaa", sum := "1c186c7667e84fedb772c9c9def0ca395190d6e80d32b7738d0253a98b9eaf6c", func := "loop.example/g00522/laws.FnExactFillGaps", spec := "fnExactFillGaps", unfollowed := true, recurses := true, apart := false, narrowed := true }
def FnExactFillGapsUptoSaid : Prop := fnExactFillGapsUptoRow.holds Try.pinned (OpenSpec.upto fnExactFillGapsSpec)

/-- 'laws.FnExactUnwrap', WHERE WHAT IT READS IS OF BULK AT MOST 1048576: true; the input reads as it did. -/
def fnExactUnwrapUptoRow : OpenClaim := { program := "ytogfhncaodaefaa", sum := "1c186c7667e84fedb772c9c9def0ca395190d6e80d32b7738d0253a98b9eaf6c", func := "loop.example/g00522/laws.FnExactUnwrap", spec := "fnExactUnwrap", unfollowed := true, recurses := true, apart := false, narrowed := true }
def FnExactUnwrapUptoSaid : Prop := fnExactUnwrapUptoRow.holds Try.pinned (OpenSpec.upto fnExactUnwrapSpec)

/-- 'laws.FnExactWindowsOf', WHERE WHAT IT READS IS OF BULK AT MOST 1048576: true; the input reads as it did. -/
def fnExactWindowsOfUptoRow : OpenClaim := { program := "ytogfhncaodaefaa", sum := "1c186c7667e84fedb772c9c9def0ca395190d6e80d32b7738d0253a98b9eaf6c", func := "loop.example/g00522/laws.FnExactWindowsOf", spec := "fnExactWindowsOf", unfollowed := true, recurses := true, apart := false, narrowed := true }
def FnExactWindowsOfUptoSaid : Prop := fnExactWindowsOfUptoRow.holds Try.pinned (OpenSpec.upto fnExactWindowsOfSpec)

end Rows
end Go.Proofs.Ytogfhncaodaefaa
