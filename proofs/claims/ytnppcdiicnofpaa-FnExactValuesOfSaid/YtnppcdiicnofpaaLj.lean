/-
  The library's strings.Join, where it lies in this program. No conditions.
-/
import Derived.Test.YtnppcdiicnofpaaWa
import Derived.Shelf.Strings.OnBuilder
namespace Go.Proofs.Ytnppcdiicnofpaa
def ljF : Nat → Nat
  | 156 => 100
  | 165 => 112
  | 166 => 113
  | 169 => 114
  | 240 => 118
  | 241 => 119
  | 276 => 122
  | 277 => 123
  | _ => 0
def ljT : Nat → Nat
  | 0 => 0
  | 3 => 3
  | 4 => 4
  | 5 => 5
  | 9 => 9
  | 20 => 20
  | 31 => 41
  | 37 => 39
  | 70 => 141
  | 72 => 143
  | 75 => 146
  | 76 => 147
  | 80 => 149
  | 127 => 150
  | 164 => 152
  | _ => 0
def lj : Shelf.Ren := ⟨ljF, ljT, fun x => x⟩
set_option maxRecDepth 1000000 in
theorem ljJoin : Lays.n156 Try.prog lj where
  mixed := by kernel_rfl
  f156 := by kernel_rfl
  f165 := by kernel_rfl
  f166 := by kernel_rfl
  f169 := by kernel_rfl
  f240 := by kernel_rfl
  f241 := by kernel_rfl
  f276 := by kernel_rfl
  f277 := by kernel_rfl
  t0 := by kernel_rfl
  a0 := fun _ => rfl
  z0 := fun _ => rfl
  v0 := fun _ => rfl
  t3 := by kernel_rfl
  a3 := fun _ => rfl
  z3 := fun _ => rfl
  v3 := fun _ => rfl
  t4 := by kernel_rfl
  a4 := fun _ => rfl
  z4 := fun _ => rfl
  v4 := fun _ => rfl
  t9 := by kernel_rfl
  a9 := fun _ => rfl
  z9 := fun _ => rfl
  v9 := fun _ => rfl
  t20 := by kernel_rfl
  a20 := fun _ => rfl
  z20 := fun _ => rfl
  v20 := fun _ => rfl
  t31 := by kernel_rfl
  a31 := fun _ => rfl
  z31 := fun _ => rfl
  v31 := fun _ => rfl
  t37 := by kernel_rfl
  a37 := fun _ => rfl
  z37 := fun _ => rfl
  v37 := fun _ => rfl
  t70 := by kernel_rfl
  a70 := fun _ => rfl
  z70 := fun _ => rfl
  v70 := fun _ => rfl
  t72 := by kernel_rfl
  a72 := fun _ => rfl
  z72 := fun _ => rfl
  v72 := fun _ => rfl
  t75 := by kernel_rfl
  a75 := fun _ => rfl
  z75 := fun _ => rfl
  v75 := fun _ => rfl
  t76 := by kernel_rfl
  a76 := fun _ => rfl
  z76 := fun _ => rfl
  v76 := fun _ => rfl
  t127 := by kernel_rfl
  a127 := fun _ => rfl
  z127 := fun _ => rfl
  v127 := fun _ => rfl
  t164 := by kernel_rfl
  a164 := fun _ => rfl
  z164 := fun _ => rfl
  v164 := fun _ => rfl
set_option maxRecDepth 1000000 in
theorem ljX : Builder.Extra Try.prog lj where
  sizeBuilder := by kernel_rfl
  liesBuilder := by kernel_rfl
  t5 := by kernel_rfl
  a5 := fun _ => rfl
  z5 := fun _ => rfl
  v5 := fun _ => rfl
  infoByte := by kernel_rfl
  cellsByte := by kernel_rfl
  sizeByte := by kernel_rfl
  neB5 := by decide
end Go.Proofs.Ytnppcdiicnofpaa
