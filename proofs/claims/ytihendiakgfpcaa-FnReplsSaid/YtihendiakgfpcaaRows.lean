/-
  No cell of these rows narrows 'for every input' (looked for: loops, veiled, ifaces, maps, wideKeys, modest, calm, conditions, laid).
  DERIVED. THE GIVEN ROWS OF THIS SEAT. 4 by the template 'for every input the law returns true; each argument reads behind the call as it read before'; 0 by the template 'total and deterministic' (their statements: YtihendiakgfpcaaTotals.lean).
  GIVEN WITH THE SEED: the statements are not yours to turn. If you find one false, say at which input.
  Laid BY PROGRAM, IN A SANDBOX (cutbox-rows.mjs): the forced cells as the released guide's own fill.sh prints them over the translation 375ffe783b773da3… (all of the seat's roots in one cut). By AI agents, Wed Nov 11 2026. No macro, syntax, notation, axiom, sorry.
-/
import Derived.Test.YtihendiakgfpcaaChecked
import GoSem.Claim
import GoSem.ClaimJoined
import GoSem.ClaimMapViews
import Derived.JoinedTies
import Derived.KernelRfl
namespace Go.Proofs.Ytihendiakgfpcaa
/- THE CELL 'sum', in the pinned program and in every row, IS THE sha256 OF THE DUMP (.gsa) THAT YtihendiakgfpcaaProg.lean LOADS. Nothing in Lean hashes anything: it is a label: what it is worth is what the hold of that sum in a sandbox is worth. -/
noncomputable def Try.pinned : Pinned := { name := "ytihendiakgfpcaa", sum := "375ffe783b773da337dea37cb73ab5c4509fcd36aacf2219ad542f40471b995c", checked := Try.checked }
namespace Rows
def none {H : Type} : Left H := { results := [], args := [] }

/-- 'laws.FnCertain': WHATEVER THE INPUT: true; the input reads as it did. -/
def fnCertainSpec : ChangeSpec := { name := "fnCertain", fn := fun _ => fun
  | [d1, d2] => { results := [.lit (.bool true)], args := [d1, d2] }
  | _ => none }
def fnCertainRow : OpenClaim := { program := "ytihendiakgfpcaa", sum := "375ffe783b773da337dea37cb73ab5c4509fcd36aacf2219ad542f40471b995c", func := "loop.example/g00522/laws.FnCertain", spec := "fnCertain", inPlace := ["slices.overlaps[int]"], unfollowed := true, recurses := true, apart := false }
def FnCertainSaid : Prop := fnCertainRow.holds Try.pinned (OpenSpec.ofChange fnCertainSpec)

/-- ITS FALSE NEIGHBOUR: 'it returns false'. Refute it at one input. -/
def fnCertainWrong : ChangeSpec := { name := "fnCertain", fn := fun _ => fun
  | [d1, d2] => { results := [.lit (.bool false)], args := [d1, d2] }
  | _ => none }
def FnCertainWrongFalsely : Prop := fnCertainRow.holds Try.pinned (OpenSpec.ofChange fnCertainWrong)

/-- 'laws.FnExactPlayRepl': WHATEVER THE INPUT: true; the input reads as it did. -/
def fnExactPlayReplSpec : ChangeSpec := { name := "fnExactPlayRepl", fn := fun _ => fun
  | [d1, d2] => { results := [.lit (.bool true)], args := [d1, d2] }
  | _ => none }
def fnExactPlayReplRow : OpenClaim := { program := "ytihendiakgfpcaa", sum := "375ffe783b773da337dea37cb73ab5c4509fcd36aacf2219ad542f40471b995c", func := "loop.example/g00522/laws.FnExactPlayRepl", spec := "fnExactPlayRepl", inPlace := ["slices.overlaps[int]"], unfollowed := true, recurses := true, apart := false }
def FnExactPlayReplSaid : Prop := fnExactPlayReplRow.holds Try.pinned (OpenSpec.ofChange fnExactPlayReplSpec)

/-- ITS FALSE NEIGHBOUR: 'it returns false'. Refute it at one input. -/
def fnExactPlayReplWrong : ChangeSpec := { name := "fnExactPlayRepl", fn := fun _ => fun
  | [d1, d2] => { results := [.lit (.bool false)], args := [d1, d2] }
  | _ => none }
def FnExactPlayReplWrongFalsely : Prop := fnExactPlayReplRow.holds Try.pinned (OpenSpec.ofChange fnExactPlayReplWrong)

/-- 'laws.FnRepls': WHATEVER THE INPUT: true; the input reads as it did. -/
def fnReplsSpec : ChangeSpec := { name := "fnRepls", fn := fun _ => fun
  | [d1, d2] => { results := [.lit (.bool true)], args := [d1, d2] }
  | _ => none }
def fnReplsRow : OpenClaim := { program := "ytihendiakgfpcaa", sum := "375ffe783b773da337dea37cb73ab5c4509fcd36aacf2219ad542f40471b995c", func := "loop.example/g00522/laws.FnRepls", spec := "fnRepls", inPlace := ["slices.overlaps[int]"], unfollowed := true, recurses := true, apart := false }
def FnReplsSaid : Prop := fnReplsRow.holds Try.pinned (OpenSpec.ofChange fnReplsSpec)

/-- ITS FALSE NEIGHBOUR: 'it returns false'. Refute it at one input. -/
def fnReplsWrong : ChangeSpec := { name := "fnRepls", fn := fun _ => fun
  | [d1, d2] => { results := [.lit (.bool false)], args := [d1, d2] }
  | _ => none }
def FnReplsWrongFalsely : Prop := fnReplsRow.holds Try.pinned (OpenSpec.ofChange fnReplsWrong)

/-- 'laws.FnExactStepRepl': WHATEVER THE INPUT: true; the input reads as it did. -/
def fnExactStepReplSpec : ChangeSpec := { name := "fnExactStepRepl", fn := fun _ => fun
  | [d1, d2] => { results := [.lit (.bool true)], args := [d1, d2] }
  | _ => none }
def fnExactStepReplRow : OpenClaim := { program := "ytihendiakgfpcaa", sum := "375ffe783b773da337dea37cb73ab5c4509fcd36aacf2219ad542f40471b995c", func := "loop.example/g00522/laws.FnExactStepRepl", spec := "fnExactStepRepl", inPlace := ["slices.overlaps[int]"], unfollowed := true, recurses := true, apart := false }
def FnExactStepReplSaid : Prop := fnExactStepReplRow.holds Try.pinned (OpenSpec.ofChange fnExactStepReplSpec)

/-- ITS FALSE NEIGHBOUR: 'it returns false'. Refute it at one input. -/
def fnExactStepReplWrong : ChangeSpec := { name := "fnExactStepRepl", fn := fun _ => fun
  | [d1, d2] => { results := [.lit (.bool false)], args := [d1, d2] }
  | _ => none }
def FnExactStepReplWrongFalsely : Prop := fnExactStepReplRow.holds Try.pinned (OpenSpec.ofChange fnExactStepReplWrong)

/- THE SECOND FORM. 'bulk': how many values and letters a reading holds, each counted each time it is reached (what is shared counts as often as it is met; a slice's spare places count too). A statement '..UptoSaid' is the law's where the arguments, and the package variables that the reading takes, are together of bulk at most 1048576: NARROWER than '..Said'. Prove '..Said' where nothing that the law and all that it calls make is longer than what came in: it says more and counts as full. Else prove '..UptoSaid'. A law counts once. -/
mutual
def uptoBulk {H : Type} : DataW H → Nat
  | .lit (.string bytes) => bytes.length + 1
  | .lit _ => 1
  | .nil => 1
  | .ptr d => uptoBulk d + 1
  | .slice elems spare => uptoBulkAll elems + uptoBulkAll spare + 1
  | .agg parts => uptoBulkAll parts + 1
  | .iface _ d => uptoBulk d + 1
  | .map entries => uptoBulkEntries entries + 1
  | .held _ => 1
def uptoBulkAll {H : Type} : List (DataW H) → Nat
  | [] => 0
  | d :: r => uptoBulk d + uptoBulkAll r
def uptoBulkEntries {H : Type} : List (Lit × DataW H) → Nat
  | [] => 0
  | x :: r => uptoBulkEntry x + uptoBulkEntries r
def uptoBulkEntry {H : Type} : Lit × DataW H → Nat
  | (.string bytes, d) => bytes.length + uptoBulk d + 1
  | (_, d) => uptoBulk d + 1
 end
def uptoSmall : (H : Type) → List (DataW H) → Bool := fun _ ds => decide (uptoBulkAll ds ≤ 1048576)
def OpenSpec.upto (s : _root_.Go.ChangeSpec) : _root_.Go.OpenSpec := { _root_.Go.OpenSpec.ofChange s with cond := some uptoSmall }

/-- 'laws.FnCertain', WHERE WHAT IT READS IS OF BULK AT MOST 1048576: true; the input reads as it did. -/
def fnCertainUptoRow : OpenClaim := { program := "ytihendiakgfpcaa", sum := "375ffe783b773da337dea37cb73ab5c4509fcd36aacf2219ad542f40471b995c", func := "loop.example/g00522/laws.FnCertain", spec := "fnCertain", inPlace := ["slices.overlaps[int]"], unfollowed := true, recurses := true, apart := false, narrowed := true }
def FnCertainUptoSaid : Prop := fnCertainUptoRow.holds Try.pinned (OpenSpec.upto fnCertainSpec)

/-- 'laws.FnExactPlayRepl', WHERE WHAT IT READS IS OF BULK AT MOST 1048576: true; the input reads as it did. -/
def fnExactPlayReplUptoRow : OpenClaim := { program := "ytihendiakgfpcaa", sum := "375ffe783b773da337dea37cb73ab5c4509fcd36aacf2219ad542f40471b995c", func := "loop.example/g00522/laws.FnExactPlayRepl", spec := "fnExactPlayRepl", inPlace := ["slices.overlaps[int]"], unfollowed := true, recurses := true, apart := false, narrowed := true }
def FnExactPlayReplUptoSaid : Prop := fnExactPlayReplUptoRow.holds Try.pinned (OpenSpec.upto fnExactPlayReplSpec)

/-- 'laws.FnRepls', WHERE WHAT IT READS IS OF BULK AT MOST 1048576: true; the input reads as it did. -/
def fnReplsUptoRow : OpenClaim := { program := "ytihendiakgfpcaa", sum := "375ffe783b773da337dea37cb73ab5c4509fcd36aacf2219ad542f40471b995c", func := "loop.example/g00522/laws.FnRepls", spec := "fnRepls", inPlace := ["slices.overlaps[int]"], unfollowed := true, recurses := true, apart := false, narrowed := true }
def FnReplsUptoSaid : Prop := fnReplsUptoRow.holds Try.pinned (OpenSpec.upto fnReplsSpec)

/-- 'laws.FnExactStepRepl', WHERE WHAT IT READS IS OF BULK AT MOST 1048576: true; the input reads as it did. -/
def fnExactStepReplUptoRow : OpenClaim := { program := "ytihendiakgfpcaa", sum := "375ffe783b773da337dea37cb73ab5c4509fcd36aacf2219ad542f40471b995c", func := "loop.example/g00522/laws.FnExactStepRepl", spec := "fnExactStepRepl", inPlace := ["slices.overlaps[int]"], unfollowed := true, recurses := true, apart := false, narrowed := true }
def FnExactStepReplUptoSaid : Prop := fnExactStepReplUptoRow.holds Try.pinned (OpenSpec.upto fnExactStepReplSpec)

end Rows
end Go.Proofs.Ytihendiakgfpcaa
