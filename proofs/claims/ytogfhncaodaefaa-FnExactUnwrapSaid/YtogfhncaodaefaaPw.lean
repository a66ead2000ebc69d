/-
  Plain functions on counters: unwrapping. No program in sight. No conditions.
-/
import Derived.Test.YtogfhncaodaefaaPu
namespace Go.Proofs.Ytogfhncaodaefaa
namespace Pl
def unwrapTo (l : List Sample) : Nat → List Sample
  | 0 => []
  | k + 1 => unwrapTo l k ++ [⟨(sampleAt l k).At, val l 0 + rise (l.take (k + 1))⟩]
theorem unwrapTo_len (l : List Sample) : ∀ k, (unwrapTo l k).length = k
  | 0 => rfl
  | k + 1 => by rw [unwrapTo, List.length_append, unwrapTo_len l k]; rfl
def unwrap (l : List Sample) : List Sample × Bool := if counterOk l = true then (if samplesOk (unwrapTo l l.length) = true then (unwrapTo l l.length, true) else ([], false)) else ([], false)
theorem unwrapTo_next {l : List Sample} {k : Nat} {x y : Sample} (hx : l[k]? = some x) (hy : l[0]? = some y) : unwrapTo l (k + 1) = unwrapTo l k ++ [⟨x.At, y.Value + rise (l.take (k + 1))⟩] := by
  rw [unwrapTo, sampleAt_of hx]; unfold val; rw [sampleAt_of hy]
/-- the copy, of which k are done -/
def halfway (l : List Sample) (k : Nat) : List Sample := unwrapTo l k ++ l.drop k
theorem halfway_zero (l : List Sample) : halfway l 0 = l := by simp [halfway, unwrapTo]
theorem halfway_end {l : List Sample} {k : Nat} (h : l.length ≤ k) : halfway l k = unwrapTo l k := by
  unfold halfway; rw [List.drop_eq_nil_of_le h, List.append_nil]
theorem halfway_get {l : List Sample} {k : Nat} {x : Sample} (hx : l[k]? = some x) : (halfway l k)[k]? = some x := by
  unfold halfway
  rw [List.getElem?_append_right (by rw [unwrapTo_len]; exact Nat.le_refl _), unwrapTo_len, Nat.sub_self, List.getElem?_drop, Nat.add_zero]
  exact hx
theorem halfway_set {l : List Sample} {k : Nat} {x y : Sample} (hx : l[k]? = some x) (hy : l[0]? = some y) : (halfway l k).set k ⟨x.At, y.Value + rise (l.take (k + 1))⟩ = halfway l (k + 1) := by
  have hk := (List.getElem?_eq_some_iff.1 hx).1
  unfold halfway
  rw [List.set_append_right _ _ (by rw [unwrapTo_len]; exact Nat.le_refl _), unwrapTo_len, Nat.sub_self, unwrapTo_next hx hy, List.drop_eq_getElem_cons hk, List.set_cons_zero, List.append_assoc]
  rfl
end Pl
end Go.Proofs.Ytogfhncaodaefaa
