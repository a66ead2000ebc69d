/-
  No cell of these rows narrows 'for every input' (looked for: loops, veiled, ifaces, maps, wideKeys, modest, calm, conditions, laid).
  DERIVED. THE GIVEN ROWS OF THIS SEAT. 5 by the template 'for every input the law returns true; each argument reads behind the call as it read before'; 0 by the template 'total and deterministic' (their statements: YtaepohocabealaaTotals.lean).
  GIVEN WITH THE SEED: the statements are not yours to turn. If you find one false, say at which input.
  Laid BY PROGRAM, IN A SANDBOX (cutbox-rows.mjs): the forced cells as the released guide's own fill.sh prints them over the translation 71e95c0e06758904… (all of the seat's roots in one cut). By AI agents, Wed Nov 11 2026. No macro, syntax, notation, axiom, sorry.
-/
import Derived.Test.YtaepohocabealaaChecked
import GoSem.Claim
import GoSem.ClaimJoined
import GoSem.ClaimMapViews
import Derived.JoinedTies
import Derived.KernelRfl
namespace Go.Proofs.Ytaepohocabealaa
/- THE CELL 'sum', in the pinned program and in every row, IS THE sha256 OF THE DUMP (.gsa) THAT YtaepohocabealaaProg.lean LOADS. Nothing in Lean hashes anything: it is a label: what it is worth is what the hold of that sum in a sandbox is worth. -/
noncomputable def Try.pinned : Pinned := { name := "ytaepohocabealaa", sum := "71e95c0e0675890420a049677eb5d07f55f3e2ada3766af911b0e22f8b5bd7bc", checked := Try.checked }
namespace Rows
def none {H : Type} : Left H := { results := [], args := [] }

/-- 'laws.FnOnce': WHATEVER THE INPUT: true; the input reads as it did. -/
def fnOnceSpec : ChangeSpec := { name := "fnOnce", fn := fun _ => fun
  | [d] => { results := [.lit (.bool true)], args := [d] }
  | _ => none }
def fnOnceRow : OpenClaim := { program := "ytaepohocabealaa", sum := "71e95c0e0675890420a049677eb5d07f55f3e2ada3766af911b0e22f8b5bd7bc", func := "loop.example/g00522/laws.FnOnce", spec := "fnOnce", unfollowed := true, recurses := true, apart := false }
def FnOnceSaid : Prop := fnOnceRow.holds Try.pinned (OpenSpec.ofChange fnOnceSpec)

/-- ITS FALSE NEIGHBOUR: 'it returns false'. Refute it at one input. -/
def fnOnceWrong : ChangeSpec := { name := "fnOnce", fn := fun _ => fun
  | [d] => { results := [.lit (.bool false)], args := [d] }
  | _ => none }
def FnOnceWrongFalsely : Prop := fnOnceRow.holds Try.pinned (OpenSpec.ofChange fnOnceWrong)

/-- 'laws.FnTells': WHATEVER THE INPUT: true; the input reads as it did. -/
def fnTellsSpec : ChangeSpec := { name := "fnTells", fn := fun _ => fun
  | [d1, d2] => { results := [.lit (.bool true)], args := [d1, d2] }
  | _ => none }
def fnTellsRow : OpenClaim := { program := "ytaepohocabealaa", sum := "71e95c0e0675890420a049677eb5d07f55f3e2ada3766af911b0e22f8b5bd7bc", func := "loop.example/g00522/laws.FnTells", spec := "fnTells", unfollowed := true, recurses := true, apart := false }
def FnTellsSaid : Prop := fnTellsRow.holds Try.pinned (OpenSpec.ofChange fnTellsSpec)

/-- ITS FALSE NEIGHBOUR: 'it returns false'. Refute it at one input. -/
def fnTellsWrong : ChangeSpec := { name := "fnTells", fn := fun _ => fun
  | [d1, d2] => { results := [.lit (.bool false)], args := [d1, d2] }
  | _ => none }
def FnTellsWrongFalsely : Prop := fnTellsRow.holds Try.pinned (OpenSpec.ofChange fnTellsWrong)

/-- 'laws.FnExactPlayTell': WHATEVER THE INPUT: true; the input reads as it did. -/
def fnExactPlayTellSpec : ChangeSpec := { name := "fnExactPlayTell", fn := fun _ => fun
  | [d1, d2] => { results := [.lit (.bool true)], args := [d1, d2] }
  | _ => none }
def fnExactPlayTellRow : OpenClaim := { program := "ytaepohocabealaa", sum := "71e95c0e0675890420a049677eb5d07f55f3e2ada3766af911b0e22f8b5bd7bc", func := "loop.example/g00522/laws.FnExactPlayTell", spec := "fnExactPlayTell", apart := false }
def FnExactPlayTellSaid : Prop := fnExactPlayTellRow.holds Try.pinned (OpenSpec.ofChange fnExactPlayTellSpec)

/-- ITS FALSE NEIGHBOUR: 'it returns false'. Refute it at one input. -/
def fnExactPlayTellWrong : ChangeSpec := { name := "fnExactPlayTell", fn := fun _ => fun
  | [d1, d2] => { results := [.lit (.bool false)], args := [d1, d2] }
  | _ => none }
def FnExactPlayTellWrongFalsely : Prop := fnExactPlayTellRow.holds Try.pinned (OpenSpec.ofChange fnExactPlayTellWrong)

/-- 'laws.FnExactSettleTell': WHATEVER THE INPUT: true; the input reads as it did. -/
def fnExactSettleTellSpec : ChangeSpec := { name := "fnExactSettleTell", fn := fun _ => fun
  | [d] => { results := [.lit (.bool true)], args := [d] }
  | _ => none }
def fnExactSettleTellRow : OpenClaim := { program := "ytaepohocabealaa", sum := "71e95c0e0675890420a049677eb5d07f55f3e2ada3766af911b0e22f8b5bd7bc", func := "loop.example/g00522/laws.FnExactSettleTell", spec := "fnExactSettleTell", unfollowed := true, recurses := true, apart := false }
def FnExactSettleTellSaid : Prop := fnExactSettleTellRow.holds Try.pinned (OpenSpec.ofChange fnExactSettleTellSpec)

/-- ITS FALSE NEIGHBOUR: 'it returns false'. Refute it at one input. -/
def fnExactSettleTellWrong : ChangeSpec := { name := "fnExactSettleTell", fn := fun _ => fun
  | [d] => { results := [.lit (.bool false)], args := [d] }
  | _ => none }
def FnExactSettleTellWrongFalsely : Prop := fnExactSettleTellRow.holds Try.pinned (OpenSpec.ofChange fnExactSettleTellWrong)

/-- 'laws.FnExactStepTell': WHATEVER THE INPUT: true; the input reads as it did. -/
def fnExactStepTellSpec : ChangeSpec := { name := "fnExactStepTell", fn := fun _ => fun
  | [d1, d2] => { results := [.lit (.bool true)], args := [d1, d2] }
  | _ => none }
def fnExactStepTellRow : OpenClaim := { program := "ytaepohocabealaa", sum := "71e95c0e0675890420a049677eb5d07f55f3e2ada3766af911b0e22f8b5bd7bc", func := "loop.example/g00522/laws.FnExactStepTell", spec := "fnExactStepTell", unfollowed := true, recurses := true, apart := false }
def FnExactStepTellSaid : Prop := fnExactStepTellRow.holds Try.pinned (OpenSpec.ofChange fnExactStepTellSpec)

/-- ITS FALSE NEIGHBOUR: 'it returns false'. Refute it at one input. -/
def fnExactStepTellWrong : ChangeSpec := { name := "fnExactStepTell", fn := fun _ => fun
  | [d1, d2] => { results := [.lit (.bool false)], args := [d1, d2] }
  | _ => none }
def FnExactStepTellWrongFalsely : Prop := fnExactStepTellRow.holds Try.pinned (OpenSpec.ofChange fnExactStepTellWrong)

/- THE SECOND FORM. 'bulk': how many values and letters a reading holds, each counted each time it is reached (what is shared counts as often as it is met; a slice's spare places count too). A statement '..UptoSaid' is the law's where the arguments, and the package variables that the reading takes, are together of bulk at most 1048576: NARROWER than '..Said'. Prove '..Said' where nothing that the law and all that it calls make is longer than what came in: it says more and counts as full. Else prove '..UptoSaid'. A law counts once. -/
mutual
def uptoBulk {H : Type} : DataW H → Nat
  | .lit (.string bytes) => bytes.length + 1
  | .lit _ => 1
  | .nil => 1
  | .ptr d => uptoBulk d + 1
  | .slice elems spare => uptoBulkAll elems + uptoBulkAll spare + 1
  | .agg parts => uptoBulkAll parts + 1
  | .iface _ d => uptoBulk d + 1
  | .map entries => uptoBulkEntries entries + 1
  | .held _ => 1
def uptoBulkAll {H : Type} : List (DataW H) → Nat
  | [] => 0
  | d :: r => uptoBulk d + uptoBulkAll r
def uptoBulkEntries {H : Type} : List (Lit × DataW H) → Nat
  | [] => 0
  | x :: r => uptoBulkEntry x + uptoBulkEntries r
def uptoBulkEntry {H : Type} : Lit × DataW H → Nat
  | (.string bytes, d) => bytes.length + uptoBulk d + 1
  | (_, d) => uptoBulk d + 1
 end
def uptoSmall : (H : Type) → List (DataW H) → Bool := fun _ ds => decide (uptoBulkAll ds ≤ 1048576)
def OpenSpec.upto (s : _root_.Go.ChangeSpec) : _root_.Go.OpenSpec := { _root_.Go.OpenSpec.ofChange s with cond := some uptoSmall }

/-- 'laws.FnOnce', WHERE WHAT IT READS IS OF BULK AT MOST 1048576: true; the input reads as it did. -/
def fnOnceUptoRow : OpenClaim := { program := "ytaepohocabealaa", sum := "71e95c0e0675890420a049677eb5d07f55f3e2ada3766af911b0e22f8b5bd7bc", func := "loop.example/g00522/laws.FnOnce", spec := "fnOnce", unfollowed := true, recurses := true, apart := false, narrowed := true }
def FnOnceUptoSaid : Prop := fnOnceUptoRow.holds Try.pinned (OpenSpec.upto fnOnceSpec)

/-- 'laws.FnTells', WHERE WHAT IT READS IS OF BULK AT MOST 1048576: true; the input reads as it did. -/
def fnTellsUptoRow : OpenClaim := { program := "ytaepohocabealaa", sum := "71e95c0e0675890420a049677eb5d07f55f3e2ada3766af911b0e22f8b5bd7bc", func := "loop.example/g00522/laws.FnTells", spec := "fnTells", unfollowed := true, recurses := true, apart := false, narrowed := true }
def FnTellsUptoSaid : Prop := fnTellsUptoRow.holds Try.pinned (OpenSpec.upto fnTellsSpec)

/-- 'laws.FnExactPlayTell', WHERE WHAT IT READS IS OF BULK AT MOST 1048576: true; the input reads as it did. -/
def fnExactPlayTellUptoRow : OpenClaim := { program := "ytaepohocabealaa", sum := "71e95c0e0675890420a049677eb5d07f55f3e2ada3766af911b0e22f8b5bd7bc", func := "loop.example/g00522/laws.FnExactPlayTell", spec := "fnExactPlayTell", apart := false, narrowed := true }
def FnExactPlayTellUptoSaid : Prop := fnExactPlayTellUptoRow.holds Try.pinned (OpenSpec.upto fnExactPlayTellSpec)

/-- 'laws.FnExactSettleTell', WHERE WHAT IT READS IS OF BULK AT MOST 1048576: true; the input reads as it did. -/
def fnExactSettleTellUptoRow : OpenClaim := { program := "ytaepohocabealaa", sum := "71e95c0e0675890420a049677eb5d07f55f3e2ada3766af911b0e22f8b5bd7bc", func := "loop.example/g00522/laws.FnExactSettleTell", spec := "fnExactSettleTell", unfollowed := true, recurses := true, apart := false, narrowed := true }
def FnExactSettleTellUptoSaid : Prop := fnExactSettleTellUptoRow.holds Try.pinned (OpenSpec.upto fnExactSettleTellSpec)

/-- 'laws.FnExactStepTell', WHERE WHAT IT READS IS OF BULK AT MOST 1048576: true; the input reads as it did. -/
def fnExactStepTellUptoRow : OpenClaim := { program := "ytaepohocabealaa", sum := "71e95c0e0675890420a049677eb5d07f55f3e2ada3766af911b0e22f8b5bd7bc", func := "loop.example/g00522/laws.FnExactStepTell", spec := "fnExactStepTell", unfollowed := true, recurses := true, apart := false, narrowed := true }
def FnExactStepTellUptoSaid : Prop := fnExactStepTellUptoRow.holds Try.pinned (OpenSpec.upto fnExactStepTellSpec)

end Rows
end Go.Proofs.Ytaepohocabealaa
