/-
  The library's slices.Insert and slices.BinarySearch, where they lie in this program. No conditions.
-/
import Derived.Test.YtjmcbggdckfefaaWa
import Derived.Shelf.Spec.SlicesInsertGrow
import Derived.Shelf.Spec.SearchS
namespace Go.Proofs.Ytjmcbggdckfefaa
def lyF : Nat → Nat
  | 17 => 111
  | 21 => 98
  | 22 => 97
  | 26 => 96
  | 27 => 106
  | 28 => 107
  | 29 => 104
  | 30 => 105
  | 33 => 102
  | 34 => 103
  | 35 => 110
  | 36 => 109
  | 38 => 108
  | 39 => 112
  | _ => 0
def lyT : Nat → Nat
  | 0 => 0
  | 3 => 3
  | 4 => 4
  | 9 => 9
  | 22 => 34
  | 24 => 33
  | 40 => 109
  | _ => 0
def ly : Shelf.Ren := ⟨lyF, lyT, fun x => x⟩
set_option maxRecDepth 1000000 in
theorem lyInsS : Lays2.n22 Try.prog ly where
  mixed := by kernel_rfl
  f17 := by kernel_rfl
  f22 := by kernel_rfl
  f29 := by kernel_rfl
  f30 := by kernel_rfl
  f36 := by kernel_rfl
  t0 := by kernel_rfl
  a0 := fun _ => rfl
  z0 := fun _ => rfl
  v0 := fun _ => rfl
  t3 := by kernel_rfl
  a3 := fun _ => rfl
  z3 := fun _ => rfl
  v3 := fun _ => rfl
  t4 := by kernel_rfl
  a4 := fun _ => rfl
  z4 := fun _ => rfl
  v4 := fun _ => rfl
  t9 := by kernel_rfl
  a9 := fun _ => rfl
  z9 := fun _ => rfl
  v9 := fun _ => rfl
  t24 := by kernel_rfl
  a24 := fun _ => rfl
  z24 := fun _ => rfl
  v24 := fun _ => rfl
  i9 := by kernel_rfl
set_option maxRecDepth 1000000 in
theorem lyInsI : Lays2.n21 Try.prog ly where
  mixed := by kernel_rfl
  f21 := by kernel_rfl
  f27 := by kernel_rfl
  f28 := by kernel_rfl
  f35 := by kernel_rfl
  f39 := by kernel_rfl
  t0 := by kernel_rfl
  a0 := fun _ => rfl
  z0 := fun _ => rfl
  v0 := fun _ => rfl
  t3 := by kernel_rfl
  a3 := fun _ => rfl
  z3 := fun _ => rfl
  v3 := fun _ => rfl
  t4 := by kernel_rfl
  a4 := fun _ => rfl
  z4 := fun _ => rfl
  v4 := fun _ => rfl
  t22 := by kernel_rfl
  a22 := fun _ => rfl
  z22 := fun _ => rfl
  v22 := fun _ => rfl
  i3 := by kernel_rfl
set_option maxRecDepth 1000000 in
theorem lyBsS : Lays2.n26 Try.prog ly where
  mixed := by kernel_rfl
  f26 := by kernel_rfl
  f33 := by kernel_rfl
  f34 := by kernel_rfl
  f38 := by kernel_rfl
  t0 := by kernel_rfl
  a0 := fun _ => rfl
  z0 := fun _ => rfl
  v0 := fun _ => rfl
  t3 := by kernel_rfl
  a3 := fun _ => rfl
  z3 := fun _ => rfl
  v3 := fun _ => rfl
  t4 := by kernel_rfl
  a4 := fun _ => rfl
  z4 := fun _ => rfl
  v4 := fun _ => rfl
  t9 := by kernel_rfl
  a9 := fun _ => rfl
  z9 := fun _ => rfl
  v9 := fun _ => rfl
  t24 := by kernel_rfl
  a24 := fun _ => rfl
  z24 := fun _ => rfl
  v24 := fun _ => rfl
  t40 := by kernel_rfl
  a40 := fun _ => rfl
  z40 := fun _ => rfl
  v40 := fun _ => rfl
end Go.Proofs.Ytjmcbggdckfefaa
