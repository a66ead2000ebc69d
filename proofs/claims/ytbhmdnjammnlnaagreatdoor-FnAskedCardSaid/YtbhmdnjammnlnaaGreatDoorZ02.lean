/-
  Joined texts, in build order: Jg, Pc, Ps, Pk, Ph, In, Ik, K0, J0, Jf, Jh, Qt, Rg, Wc. Each part says what it proves; no conditions beyond those that a part names.
-/
import Derived.Test.YtbhmdnjammnlnaaGreatDoorZ01
import Derived.Shelf.Strings.Split
import Derived.Shelf.Strconv.Itoa4
import Derived.Shelf.Strconv.ErrVarAll
import Derived.Shelf.Strings.BuilderK
import Derived.WalkKit
import Derived.Lib.Strings
import Derived.Shelf.Spec.SearchS
import Derived.Shelf.Spec.SlicesInsertGrow
import Derived.Lib.AppendZerosOnto
import Derived.Lib.Overlaps
import Derived.Lib.Bytealg
import Derived.Lib.ItoaLen
import Derived.Lib.ItoaMem
import Derived.Lib.AtoiTie
import Derived.Lib.AtoiBound
import Derived.Lib.SplitLaws
import Derived.Lib.AtoiErrMem
import Derived.Lib.AtoiAll
import Derived.StillTail
import Derived.BigQuiet
import Derived.Lib.Hide
import Derived.WalkSpells
set_option linter.unusedVariables false
set_option linter.unusedSimpArgs false
namespace Go.Proofs.YtbhmdnjammnlnaaGreatDoor
def lsF : Nat → Nat
  | 129 => 223
  | 138 => 212
  | 143 => 213
  | 146 => 179
  | 166 => 188
  | 169 => 189
  | 171 => 154
  | 172 => 180
  | 195 => 227
  | 197 => 228
  | 205 => 233
  | 217 => 237
  | 218 => 229
  | 219 => 230
  | 221 => 196
  | 224 => 239
  | 225 => 238
  | 240 => 205
  | 243 => 178
  | 244 => 197
  | 245 => 198
  | 246 => 195
  | 247 => 214
  | 260 => 236
  | 266 => 243
  | 267 => 240
  | 268 => 211
  | 276 => 220
  | 279 => 215
  | 280 => 216
  | 281 => 217
  | 282 => 218
  | 283 => 207
  | 284 => 208
  | 285 => 209
  | 286 => 210
  | 287 => 231
  | 314 => 244
  | 316 => 232
  | 317 => 222
  | 318 => 224
  | 319 => 225
  | 320 => 226
  | 321 => 241
  | 322 => 242
  | 337 => 234
  | 338 => 235
  | _ => 0
def lsT : Nat → Nat
  | 0 => 0
  | 2 => 2
  | 3 => 3
  | 4 => 4
  | 5 => 5
  | 9 => 9
  | 20 => 20
  | 21 => 21
  | 31 => 142
  | 37 => 68
  | 46 => 204
  | 51 => 256
  | 53 => 126
  | 70 => 226
  | 72 => 228
  | 75 => 211
  | 76 => 212
  | 80 => 229
  | 85 => 244
  | 105 => 259
  | 119 => 275
  | 127 => 236
  | 138 => 277
  | 139 => 278
  | 143 => 270
  | 145 => 272
  | 146 => 279
  | 164 => 251
  | 167 => 243
  | 168 => 246
  | 171 => 237
  | 173 => 240
  | 175 => 262
  | 210 => 265
  | 212 => 255
  | 213 => 257
  | 232 => 273
  | 233 => 274
  | _ => 0
def lsG : Nat → Nat
  | 1 => 0
  | 3 => 6
  | 4 => 7
  | 15 => 2
  | 16 => 3
  | 17 => 1
  | 18 => 4
  | 19 => 5
  | _ => 0
def ls : Shelf.Ren := ⟨lsF, lsT, lsG⟩
set_option maxRecDepth 1000000 in
theorem lsSplit : Lays.n146 Tryz.prog ls := {
  mixed := by kernel_rfl,
  f138 := by kernel_rfl,
  f143 := by kernel_rfl,
  f146 := by kernel_rfl,
  f195 := by kernel_rfl,
  f197 := by kernel_rfl,
  f217 := by kernel_rfl,
  f218 := by kernel_rfl,
  f219 := by kernel_rfl,
  f221 := by kernel_rfl,
  f224 := by kernel_rfl,
  f225 := by kernel_rfl,
  f260 := by kernel_rfl,
  f266 := by kernel_rfl,
  f267 := by kernel_rfl,
  f268 := by kernel_rfl,
  f314 := by kernel_rfl,
  t0 := by kernel_rfl,
  a0 := fun _ => rfl,
  z0 := fun _ => rfl,
  v0 := fun _ => rfl,
  t3 := by kernel_rfl,
  a3 := fun _ => rfl,
  z3 := fun _ => rfl,
  v3 := fun _ => rfl,
  t4 := by kernel_rfl,
  a4 := fun _ => rfl,
  z4 := fun _ => rfl,
  v4 := fun _ => rfl,
  t5 := by kernel_rfl,
  a5 := fun _ => rfl,
  z5 := fun _ => rfl,
  v5 := fun _ => rfl,
  t9 := by kernel_rfl,
  a9 := fun _ => rfl,
  z9 := fun _ => rfl,
  v9 := fun _ => rfl,
  t21 := by kernel_rfl,
  a21 := fun _ => rfl,
  z21 := fun _ => rfl,
  v21 := fun _ => rfl,
  t31 := by kernel_rfl,
  a31 := fun _ => rfl,
  z31 := fun _ => rfl,
  v31 := fun _ => rfl,
  t46 := by kernel_rfl,
  a46 := fun _ => rfl,
  z46 := fun _ => rfl,
  v46 := fun _ => rfl,
  t51 := by kernel_rfl,
  a51 := fun _ => rfl,
  z51 := fun _ => rfl,
  v51 := fun _ => rfl,
  t105 := by kernel_rfl,
  a105 := fun _ => rfl,
  z105 := fun _ => rfl,
  v105 := fun _ => rfl,
  t119 := by kernel_rfl,
  a119 := fun _ => rfl,
  z119 := fun _ => rfl,
  t138 := by kernel_rfl,
  a138 := fun _ => rfl,
  z138 := fun _ => rfl,
  v138 := fun _ => rfl,
  t139 := by kernel_rfl,
  a139 := fun _ => rfl,
  z139 := fun _ => rfl,
  v139 := fun _ => rfl,
  t146 := by kernel_rfl,
  a146 := fun _ => rfl,
  z146 := fun _ => rfl,
  v146 := fun _ => rfl,
  g1 := by kernel_rfl,
  g3 := by kernel_rfl,
  g4 := by kernel_rfl }
set_option maxRecDepth 1000000 in
theorem lsItoa : LaysM.n171 Tryz.prog ls := {
  mixed := by kernel_rfl,
  f129 := by kernel_rfl,
  f171 := by kernel_rfl,
  f243 := by kernel_rfl,
  f246 := by kernel_rfl,
  f283 := by kernel_rfl,
  f284 := by kernel_rfl,
  f285 := by kernel_rfl,
  f286 := by kernel_rfl,
  f317 := by kernel_rfl,
  f318 := by kernel_rfl,
  f319 := by kernel_rfl,
  f320 := by kernel_rfl,
  f337 := by kernel_rfl,
  f338 := by kernel_rfl,
  t0 := by kernel_rfl,
  a0 := fun _ => rfl,
  z0 := fun _ => rfl,
  v0 := fun _ => rfl,
  t2 := by kernel_rfl,
  a2 := fun _ => rfl,
  z2 := fun _ => rfl,
  v2 := fun _ => rfl,
  t3 := by kernel_rfl,
  a3 := fun _ => rfl,
  z3 := fun _ => rfl,
  v3 := fun _ => rfl,
  t4 := by kernel_rfl,
  a4 := fun _ => rfl,
  z4 := fun _ => rfl,
  v4 := fun _ => rfl,
  t5 := by kernel_rfl,
  a5 := fun _ => rfl,
  z5 := fun _ => rfl,
  v5 := fun _ => rfl,
  t9 := by kernel_rfl,
  a9 := fun _ => rfl,
  z9 := fun _ => rfl,
  v9 := fun _ => rfl,
  t20 := by kernel_rfl,
  a20 := fun _ => rfl,
  z20 := fun _ => rfl,
  v20 := fun _ => rfl,
  t37 := by kernel_rfl,
  a37 := fun _ => rfl,
  z37 := fun _ => rfl,
  v37 := fun _ => rfl,
  t46 := by kernel_rfl,
  a46 := fun _ => rfl,
  z46 := fun _ => rfl,
  v46 := fun _ => rfl,
  t51 := by kernel_rfl,
  a51 := fun _ => rfl,
  z51 := fun _ => rfl,
  v51 := fun _ => rfl,
  t53 := by kernel_rfl,
  a53 := fun _ => rfl,
  z53 := fun _ => rfl,
  v53 := fun _ => rfl,
  t171 := by kernel_rfl,
  a171 := fun _ => rfl,
  z171 := fun _ => rfl,
  v171 := fun _ => rfl,
  t173 := by kernel_rfl,
  a173 := fun _ => rfl,
  z173 := fun _ => rfl,
  v173 := fun _ => rfl,
  t212 := by kernel_rfl,
  a212 := fun _ => rfl,
  z212 := fun _ => rfl,
  v212 := fun _ => rfl,
  t213 := by kernel_rfl,
  a213 := fun _ => rfl,
  z213 := fun _ => rfl,
  t232 := by kernel_rfl,
  a232 := fun _ => rfl,
  z232 := fun _ => rfl,
  v232 := fun _ => rfl,
  t233 := by kernel_rfl,
  a233 := fun _ => rfl,
  z233 := fun _ => rfl,
  v233 := fun _ => rfl,
  g17 := by kernel_rfl,
  g18 := by kernel_rfl,
  g19 := by kernel_rfl,
  i0 := by kernel_rfl,
  i2 := by kernel_rfl,
  i3 := by kernel_rfl,
  i4 := by kernel_rfl,
  i5 := by kernel_rfl,
  i9 := by kernel_rfl,
  i20 := by kernel_rfl,
  i37 := by kernel_rfl,
  i46 := by kernel_rfl,
  i51 := by kernel_rfl,
  i53 := by kernel_rfl,
  i171 := by kernel_rfl,
  i173 := by kernel_rfl,
  i212 := by kernel_rfl,
  i232 := by kernel_rfl,
  i233 := by kernel_rfl,
  m17 := by kernel_rfl,
  m18 := by kernel_rfl,
  m19 := by kernel_rfl }
set_option maxRecDepth 1000000 in
theorem lsAtoi : LaysC.n172 Tryz.prog ls := {
  mixed := by kernel_rfl,
  f129 := by kernel_rfl,
  f171 := by kernel_rfl,
  f172 := by kernel_rfl,
  f205 := by kernel_rfl,
  f243 := by kernel_rfl,
  f244 := by kernel_rfl,
  f245 := by kernel_rfl,
  f246 := by kernel_rfl,
  f247 := by kernel_rfl,
  f279 := by kernel_rfl,
  f280 := by kernel_rfl,
  f281 := by kernel_rfl,
  f282 := by kernel_rfl,
  f283 := by kernel_rfl,
  f284 := by kernel_rfl,
  f285 := by kernel_rfl,
  f286 := by kernel_rfl,
  f287 := by kernel_rfl,
  f316 := by kernel_rfl,
  f317 := by kernel_rfl,
  f318 := by kernel_rfl,
  f319 := by kernel_rfl,
  f320 := by kernel_rfl,
  f321 := by kernel_rfl,
  f322 := by kernel_rfl,
  f337 := by kernel_rfl,
  f338 := by kernel_rfl,
  t0 := by kernel_rfl,
  a0 := fun _ => rfl,
  z0 := fun _ => rfl,
  v0 := fun _ => rfl,
  t2 := by kernel_rfl,
  a2 := fun _ => rfl,
  z2 := fun _ => rfl,
  v2 := fun _ => rfl,
  t3 := by kernel_rfl,
  a3 := fun _ => rfl,
  z3 := fun _ => rfl,
  v3 := fun _ => rfl,
  t4 := by kernel_rfl,
  a4 := fun _ => rfl,
  z4 := fun _ => rfl,
  v4 := fun _ => rfl,
  t5 := by kernel_rfl,
  a5 := fun _ => rfl,
  z5 := fun _ => rfl,
  v5 := fun _ => rfl,
  t9 := by kernel_rfl,
  a9 := fun _ => rfl,
  z9 := fun _ => rfl,
  v9 := fun _ => rfl,
  t20 := by kernel_rfl,
  a20 := fun _ => rfl,
  z20 := fun _ => rfl,
  v20 := fun _ => rfl,
  t21 := by kernel_rfl,
  a21 := fun _ => rfl,
  z21 := fun _ => rfl,
  v21 := fun _ => rfl,
  t37 := by kernel_rfl,
  a37 := fun _ => rfl,
  z37 := fun _ => rfl,
  v37 := fun _ => rfl,
  t46 := by kernel_rfl,
  a46 := fun _ => rfl,
  z46 := fun _ => rfl,
  v46 := fun _ => rfl,
  t51 := by kernel_rfl,
  a51 := fun _ => rfl,
  z51 := fun _ => rfl,
  v51 := fun _ => rfl,
  t53 := by kernel_rfl,
  a53 := fun _ => rfl,
  z53 := fun _ => rfl,
  v53 := fun _ => rfl,
  t75 := by kernel_rfl,
  a75 := fun _ => rfl,
  z75 := fun _ => rfl,
  v75 := fun _ => rfl,
  t76 := by kernel_rfl,
  a76 := fun _ => rfl,
  z76 := fun _ => rfl,
  v76 := fun _ => rfl,
  t85 := by kernel_rfl,
  a85 := fun _ => rfl,
  z85 := fun _ => rfl,
  v85 := fun _ => rfl,
  t127 := by kernel_rfl,
  a127 := fun _ => rfl,
  z127 := fun _ => rfl,
  v127 := fun _ => rfl,
  t143 := by kernel_rfl,
  a143 := fun _ => rfl,
  z143 := fun _ => rfl,
  v143 := fun _ => rfl,
  t145 := by kernel_rfl,
  a145 := fun _ => rfl,
  z145 := fun _ => rfl,
  v145 := fun _ => rfl,
  t167 := by kernel_rfl,
  a167 := fun _ => rfl,
  z167 := fun _ => rfl,
  v167 := fun _ => rfl,
  t168 := by kernel_rfl,
  a168 := fun _ => rfl,
  z168 := fun _ => rfl,
  v168 := fun _ => rfl,
  t171 := by kernel_rfl,
  a171 := fun _ => rfl,
  z171 := fun _ => rfl,
  v171 := fun _ => rfl,
  t173 := by kernel_rfl,
  a173 := fun _ => rfl,
  z173 := fun _ => rfl,
  v173 := fun _ => rfl,
  t175 := by kernel_rfl,
  a175 := fun _ => rfl,
  z175 := fun _ => rfl,
  v175 := fun _ => rfl,
  t210 := by kernel_rfl,
  a210 := fun _ => rfl,
  z210 := fun _ => rfl,
  v210 := fun _ => rfl,
  t212 := by kernel_rfl,
  a212 := fun _ => rfl,
  z212 := fun _ => rfl,
  v212 := fun _ => rfl,
  t213 := by kernel_rfl,
  a213 := fun _ => rfl,
  z213 := fun _ => rfl,
  t232 := by kernel_rfl,
  a232 := fun _ => rfl,
  z232 := fun _ => rfl,
  v232 := fun _ => rfl,
  t233 := by kernel_rfl,
  a233 := fun _ => rfl,
  z233 := fun _ => rfl,
  v233 := fun _ => rfl,
  g15 := by kernel_rfl,
  g16 := by kernel_rfl,
  g17 := by kernel_rfl,
  g18 := by kernel_rfl,
  g19 := by kernel_rfl,
  t80 := by kernel_rfl,
  a80 := fun _ => rfl,
  z80 := fun _ => rfl,
  v80 := fun _ => rfl,
  i0 := by kernel_rfl,
  i2 := by kernel_rfl,
  i3 := by kernel_rfl,
  i4 := by kernel_rfl,
  i5 := by kernel_rfl,
  i9 := by kernel_rfl,
  i20 := by kernel_rfl,
  i21 := by kernel_rfl,
  i37 := by kernel_rfl,
  i46 := by kernel_rfl,
  i51 := by kernel_rfl,
  i53 := by kernel_rfl,
  i75 := by kernel_rfl,
  i76 := by kernel_rfl,
  i80 := by kernel_rfl,
  i85 := by kernel_rfl,
  i127 := by kernel_rfl,
  i143 := by kernel_rfl,
  i145 := by kernel_rfl,
  i167 := by kernel_rfl,
  i168 := by kernel_rfl,
  i171 := by kernel_rfl,
  i173 := by kernel_rfl,
  i175 := by kernel_rfl,
  i210 := by kernel_rfl,
  i212 := by kernel_rfl,
  i232 := by kernel_rfl,
  i233 := by kernel_rfl,
  m15 := by kernel_rfl,
  m16 := by kernel_rfl,
  m17 := by kernel_rfl,
  m18 := by kernel_rfl,
  m19 := by kernel_rfl,
  c0 := by kernel_rfl,
  c2 := by kernel_rfl,
  c3 := by kernel_rfl,
  c4 := by kernel_rfl,
  c5 := by kernel_rfl,
  c9 := by kernel_rfl,
  c20 := by kernel_rfl,
  c21 := by kernel_rfl,
  c37 := by kernel_rfl,
  c46 := by kernel_rfl,
  c51 := by kernel_rfl,
  c53 := by kernel_rfl,
  c75 := by kernel_rfl,
  c76 := by kernel_rfl,
  c80 := by kernel_rfl,
  c85 := by kernel_rfl,
  c127 := by kernel_rfl,
  c143 := by kernel_rfl,
  c145 := by kernel_rfl,
  c167 := by kernel_rfl,
  c168 := by kernel_rfl,
  c171 := by kernel_rfl,
  c173 := by kernel_rfl,
  c175 := by kernel_rfl,
  c210 := by kernel_rfl,
  c212 := by kernel_rfl,
  c213 := by kernel_rfl,
  c232 := by kernel_rfl,
  c233 := by kernel_rfl }
set_option maxRecDepth 1000000 in
theorem lsWS : Lays.n166 Tryz.prog ls := {
  mixed := by kernel_rfl,
  f166 := by kernel_rfl,
  f240 := by kernel_rfl,
  f276 := by kernel_rfl,
  t0 := by kernel_rfl,
  a0 := fun _ => rfl,
  z0 := fun _ => rfl,
  v0 := fun _ => rfl,
  t3 := by kernel_rfl,
  a3 := fun _ => rfl,
  z3 := fun _ => rfl,
  v3 := fun _ => rfl,
  t4 := by kernel_rfl,
  a4 := fun _ => rfl,
  z4 := fun _ => rfl,
  v4 := fun _ => rfl,
  t9 := by kernel_rfl,
  a9 := fun _ => rfl,
  z9 := fun _ => rfl,
  v9 := fun _ => rfl,
  t20 := by kernel_rfl,
  a20 := fun _ => rfl,
  z20 := fun _ => rfl,
  v20 := fun _ => rfl,
  t37 := by kernel_rfl,
  a37 := fun _ => rfl,
  z37 := fun _ => rfl,
  v37 := fun _ => rfl,
  t70 := by kernel_rfl,
  a70 := fun _ => rfl,
  z70 := fun _ => rfl,
  v70 := fun _ => rfl,
  t72 := by kernel_rfl,
  a72 := fun _ => rfl,
  z72 := fun _ => rfl,
  v72 := fun _ => rfl,
  t75 := by kernel_rfl,
  a75 := fun _ => rfl,
  z75 := fun _ => rfl,
  v75 := fun _ => rfl,
  t164 := by kernel_rfl,
  a164 := fun _ => rfl,
  z164 := fun _ => rfl,
  v164 := fun _ => rfl }
set_option maxRecDepth 1000000 in
theorem lsStr : Lays.n169 Tryz.prog ls := {
  mixed := by kernel_rfl,
  f169 := by kernel_rfl,
  t0 := by kernel_rfl,
  a0 := fun _ => rfl,
  z0 := fun _ => rfl,
  v0 := fun _ => rfl,
  t3 := by kernel_rfl,
  a3 := fun _ => rfl,
  z3 := fun _ => rfl,
  v3 := fun _ => rfl,
  t9 := by kernel_rfl,
  a9 := fun _ => rfl,
  z9 := fun _ => rfl,
  v9 := fun _ => rfl,
  t37 := by kernel_rfl,
  a37 := fun _ => rfl,
  z37 := fun _ => rfl,
  v37 := fun _ => rfl,
  t70 := by kernel_rfl,
  a70 := fun _ => rfl,
  z70 := fun _ => rfl,
  v70 := fun _ => rfl,
  t72 := by kernel_rfl,
  a72 := fun _ => rfl,
  z72 := fun _ => rfl,
  v72 := fun _ => rfl,
  t127 := by kernel_rfl,
  a127 := fun _ => rfl,
  z127 := fun _ => rfl,
  v127 := fun _ => rfl }
set_option maxRecDepth 1000000 in
theorem lsX : Builder.Extra Tryz.prog ls := {
  sizeBuilder := by kernel_rfl,
  liesBuilder := by kernel_rfl,
  t5 := by kernel_rfl,
  a5 := fun _ => rfl,
  z5 := fun _ => rfl,
  v5 := fun _ => rfl,
  infoByte := by kernel_rfl,
  cellsByte := by kernel_rfl,
  sizeByte := by kernel_rfl,
  neB5 := by decide }
end Go.Proofs.YtbhmdnjammnlnaaGreatDoor

namespace Go.Proofs.YtbhmdnjammnlnaaGreatDoor
namespace Pl
def allB (n : Nat) (g : Nat → Bool) : Bool := (List.range n).all g
theorem allB_iff {n : Nat} {g : Nat → Bool} : allB n g = true ↔ ∀ i, i < n → g i = true := by
  unfold allB; simp
theorem allB_no {n k : Nat} {g : Nat → Bool} (hk : k < n) (h : g k = false) : allB n g = false := by
  cases hb : allB n g with
  | false => rfl
  | true => rw [allB_iff.1 hb k hk] at h; cases h
theorem allB_yes {n : Nat} {g : Nat → Bool} (h : ∀ i, i < n → g i = true) : allB n g = true := allB_iff.2 h
theorem snocB {k : Nat} {p : Nat → Prop} (h : ∀ i, i < k → p i) (hk : p k) : ∀ i, i < k + 1 → p i := fun i hi => by
  rcases Nat.lt_succ_iff_lt_or_eq.1 hi with h1 | rfl
  · exact h i h1
  · exact hk
section
variable {α : Type} {p : α → Bool} {l : List α} {k : Nat} {x : α}
end
theorem isIn_iff {n a b : Int} : isIn n a b = true ↔ a ≤ n ∧ n ≤ b := by unfold isIn; simp
theorem isIn_no {n a b : Int} : isIn n a b = false ↔ ¬ (a ≤ n ∧ n ≤ b) := by
  unfold isIn; rw [← Bool.not_eq_true]; simp
def sumTo (l : List Int) : Nat → Int
  | 0 => 0
  | k + 1 => sumTo l k + l.getD k 0
def sum (l : List Int) : Int := sumTo l l.length
end Pl
end Go.Proofs.YtbhmdnjammnlnaaGreatDoor

namespace Go.Proofs.YtbhmdnjammnlnaaGreatDoor
namespace Pl
def sampleOk (x : Sample) : Bool := isIn x.At 0 1000000000 && isIn x.Value (-1000000000) 1000000000
def sampleAt (l : List Sample) (i : Nat) : Sample := l.getD i ⟨0, 0⟩
theorem sampleAt_of {l : List Sample} {i : Nat} {x : Sample} (h : l[i]? = some x) : sampleAt l i = x := by
  unfold sampleAt; rw [List.getD_eq_getElem?_getD, h]; rfl
def sampleGood (l : List Sample) (i : Nat) : Bool := sampleOk (sampleAt l i) && (decide (i = 0) || decide ((sampleAt l (i - 1)).At < (sampleAt l i).At))
def samplesOk (l : List Sample) : Bool := allB l.length (sampleGood l) && decide ((l.length : Int) ≤ 40)
theorem samplesOk_bad {l : List Sample} {k : Nat} (hk : k < l.length) (h : sampleGood l k = false) : samplesOk l = false := by
  unfold samplesOk; rw [allB_no hk h]; rfl
theorem samplesOk_end {l : List Sample} {k : Nat} (hk : l.length ≤ k) (h : ∀ i, i < k → sampleGood l i = true) : samplesOk l = decide ((l.length : Int) ≤ 40) := by
  unfold samplesOk; rw [allB_yes (fun i hi => h i (by omega))]; rfl
theorem good_bad {l : List Sample} {k : Nat} {x : Sample} (h : l[k]? = some x) (hx : sampleOk x = false) : sampleGood l k = false := by
  unfold sampleGood; rw [sampleAt_of h, hx]; rfl
theorem good_zero {l : List Sample} {x : Sample} (h : l[0]? = some x) (hx : sampleOk x = true) : sampleGood l 0 = true := by
  unfold sampleGood; rw [sampleAt_of h, hx]; rfl
theorem good_later {l : List Sample} {k : Nat} {x y : Sample} (h : l[k]? = some x) (h' : l[k - 1]? = some y) (hk : 0 < k) (hx : sampleOk x = true) : sampleGood l k = decide (y.At < x.At) := by
  unfold sampleGood; rw [sampleAt_of h, sampleAt_of h', hx]; simp; omega
theorem sampleOk_iff {x : Sample} : sampleOk x = true ↔ isIn x.At 0 1000000000 = true ∧ isIn x.Value (-1000000000) 1000000000 = true := by
  unfold sampleOk; simp
end Pl
end Go.Proofs.YtbhmdnjammnlnaaGreatDoor

namespace Go.Proofs.YtbhmdnjammnlnaaGreatDoor
namespace Pl
def strAt (l : List ByteArray) (i : Nat) : ByteArray := l.getD i ByteArray.empty
theorem strAt_of {l : List ByteArray} {i : Nat} {x : ByteArray} (h : l[i]? = some x) : strAt l i = x := by
  unfold strAt; rw [List.getD_eq_getElem?_getD, h]; rfl
def idxFrom (l : List ByteArray) (v : ByteArray) : Nat → Nat → Int
  | 0, _ => -1
  | f + 1, k => if strAt l k = v then (k : Int) else idxFrom l v f (k + 1)
def idx (l : List ByteArray) (v : ByteArray) : Int := idxFrom l v l.length 0
end Pl
end Go.Proofs.YtbhmdnjammnlnaaGreatDoor

namespace Go.Proofs.YtbhmdnjammnlnaaGreatDoor
namespace Pl
def lessB (x y : ByteArray) : Bool := Op.bytesLess x.toList y.toList
theorem bless_irrefl : ∀ x : List UInt8, Op.bytesLess x x = false
  | [] => rfl
  | a :: t => by rw [Op.bytesLess, bless_irrefl t]; simp
theorem bless_trans : ∀ {x y z : List UInt8}, Op.bytesLess x y = true → Op.bytesLess y z = true → Op.bytesLess x z = true
  | _, [], _, h, _ => by simp [Op.bytesLess] at h
  | _, _ :: _, [], _, h => by simp [Op.bytesLess] at h
  | [], _ :: _, _ :: _, _, _ => rfl
  | a :: x, b :: y, c :: z, h, k => by
    rw [Op.bytesLess] at h k ⊢
    simp only [Bool.or_eq_true, decide_eq_true_eq, Bool.and_eq_true, beq_iff_eq] at h k ⊢
    rcases h with h | ⟨rfl, h⟩
    · rcases k with k | ⟨rfl, k⟩
      · exact .inl (UInt8.lt_trans h k)
      · exact .inl h
    · rcases k with k | ⟨rfl, k⟩
      · exact .inl k
      · exact .inr ⟨rfl, bless_trans h k⟩
theorem bless_total : ∀ {x y : List UInt8}, x ≠ y → Op.bytesLess x y = true ∨ Op.bytesLess y x = true
  | [], [], h => absurd rfl h
  | [], _ :: _, _ => .inl rfl
  | _ :: _, [], _ => .inr rfl
  | a :: x, b :: y, h => by
    rw [Op.bytesLess, Op.bytesLess]
    simp only [Bool.or_eq_true, decide_eq_true_eq, Bool.and_eq_true, beq_iff_eq]
    by_cases hab : a = b
    · subst hab
      have : x ≠ y := fun e => h (by rw [e])
      rcases bless_total this with h1 | h1
      · exact .inl (.inr ⟨rfl, h1⟩)
      · exact .inr (.inr ⟨rfl, h1⟩)
    · rcases Nat.lt_or_gt_of_ne (fun e => hab (UInt8.toNat_inj.1 e)) with h1 | h1
      · exact .inl (.inl h1)
      · exact .inr (.inl h1)
theorem ba_inj {x v : ByteArray} (e : x.toList = v.toList) : x = v := by
  rw [Lib.toList_data, Lib.toList_data] at e
  cases x
  cases v
  exact congrArg ByteArray.mk (Array.toList_inj.1 e)
structure HSort (l : List ByteArray) (m : Nat) : Prop where
  le : m ≤ l.length
  used : ∀ (i : Nat) x, i < m → l[i]? = some x → x.toList ≠ []
  free : ∀ (i : Nat) x, m ≤ i → l[i]? = some x → x.toList = []
  sort : ∀ (i j : Nat) x y, i < j → j < m → l[i]? = some x → l[j]? = some y → lessB x y = true
def posF (l : List ByteArray) (x : ByteArray) : Nat → Nat → Nat
  | 0, k => k
  | f + 1, k => if (strAt l k).toList ≠ [] ∧ lessB (strAt l k) x = true then posF l x f (k + 1) else k
def posN (l : List ByteArray) (x : ByteArray) : Nat := posF l x l.length 0
theorem posF_spec (l : List ByteArray) (x : ByteArray) : ∀ (f k : Nat), k ≤ posF l x f k ∧ posF l x f k ≤ k + f ∧ (∀ t, k ≤ t → t < posF l x f k → (strAt l t).toList ≠ [] ∧ lessB (strAt l t) x = true) ∧ (posF l x f k < k + f → ¬ ((strAt l (posF l x f k)).toList ≠ [] ∧ lessB (strAt l (posF l x f k)) x = true))
  | 0, k => ⟨Nat.le_refl _, Nat.le_refl _, fun t h1 h2 => by simp only [posF] at h2; omega, fun h => by simp only [posF] at h; omega⟩
  | f + 1, k => by
    by_cases hc : (strAt l k).toList ≠ [] ∧ lessB (strAt l k) x = true
    · obtain ⟨h1, h2, h3, h4⟩ := posF_spec l x f (k + 1)
      rw [posF, if_pos hc]
      refine ⟨by omega, by omega, fun t a b => ?_, fun h => h4 (by omega)⟩
      by_cases hk : t = k
      · subst hk; exact hc
      · exact h3 t (by omega) b
    · rw [posF, if_neg hc]
      exact ⟨Nat.le_refl _, by omega, fun t a b => by omega, fun _ => hc⟩
def insAt {α : Type} (l : List α) (k : Nat) (x : α) : List α := (l.take k ++ x :: l.drop k).dropLast
def lessTo (names : List ByteArray) (counts : List Int) : Nat → List (ByteArray × Int)
  | 0 => []
  | k + 1 => lessTo names counts k ++ if 1 < counts.getD k 0 then [(strAt names k, counts.getD k 0 - 1)] else []
def hless (h : Heavy) : Heavy :=
  ⟨(lessTo h.Names h.Counts h.Names.length).map (·.1) ++ List.replicate (h.Names.length - (lessTo h.Names h.Counts h.Names.length).length) ⟨#[]⟩,
   (lessTo h.Names h.Counts h.Names.length).map (·.2) ++ List.replicate (h.Names.length - (lessTo h.Names h.Counts h.Names.length).length) 0, h.Gone + 1, h.Total + 1⟩
def hadd (h : Heavy) (x : ByteArray) : Heavy :=
  if 0 ≤ idx h.Names x then ⟨h.Names, h.Counts.set (idx h.Names x).toNat (h.Counts.getD (idx h.Names x).toNat 0 + 1), h.Gone, h.Total + 1⟩
  else if (strAt h.Names (h.Names.length - 1)).toList ≠ [] then hless h
  else ⟨insAt h.Names (posN h.Names x) x, insAt h.Counts (posN h.Names x) 1, h.Gone, h.Total + 1⟩
section
variable {l : List ByteArray} {m : Nat} {x : ByteArray}
theorem HSort.at_ (h : HSort l m) {i : Nat} (hi : i < m) : ∃ y, l[i]? = some y ∧ strAt l i = y ∧ y.toList ≠ [] := by
  have hy := List.getElem?_eq_getElem (show i < l.length by have := h.le; omega)
  exact ⟨_, hy, strAt_of hy, h.used i _ hi hy⟩
theorem HSort.pos (h : HSort l m) (x : ByteArray) : posN l x ≤ m ∧ (∀ t, t < posN l x → lessB (strAt l t) x = true) ∧ (∀ t, posN l x ≤ t → t < m → lessB (strAt l t) x = false) := by
  obtain ⟨_, h2, h3, h4⟩ := posF_spec l x l.length 0
  have hle : posN l x ≤ m := by
    rcases Nat.lt_or_ge m (posN l x) with hlt | hge
    · have hc := h3 m (Nat.zero_le _) hlt
      have hm : m < l.length := by unfold posN at hlt; omega
      exact absurd (h.free m _ (Nat.le_refl _) (List.getElem?_eq_getElem hm)) (by rw [← strAt_of (List.getElem?_eq_getElem hm)]; exact hc.1)
    · exact hge
  refine ⟨hle, fun t ht => (h3 t (Nat.zero_le _) ht).2, fun t ht htm => ?_⟩
  have hlen := h.le
  have hp : posN l x < m := by omega
  obtain ⟨y, hy, hys, hyn⟩ := h.at_ hp
  have hnp : lessB (strAt l (posN l x)) x = false := by
    have := h4 (by show posN l x < 0 + l.length; omega)
    change ¬ ((strAt l (posN l x)).toList ≠ [] ∧ lessB (strAt l (posN l x)) x = true) at this
    cases hb : lessB (strAt l (posN l x)) x
    · rfl
    · exact absurd ⟨by rw [hys]; exact hyn, hb⟩ this
  rcases Nat.eq_or_lt_of_le ht with rfl | hlt
  · exact hnp
  · obtain ⟨z, hz, hzs, _⟩ := h.at_ htm
    have hs := h.sort _ t y z hlt htm hy hz
    cases hb : lessB (strAt l t) x
    · rfl
    · rw [hzs] at hb
      rw [hys] at hnp
      have := bless_trans hs hb
      unfold lessB at hnp
      rw [hnp] at this
      cases this
structure HIn (h : Heavy) (b : Int) : Prop where
  pl : 1 ≤ h.Names.length ∧ h.Names.length ≤ 6
  cl : h.Counts.length = h.Names.length
  so : ∃ m, HSort h.Names m
  cb : ∀ (i : Nat) y, h.Counts[i]? = some y → 0 ≤ y ∧ y ≤ b
  gb : 0 ≤ h.Gone ∧ h.Gone ≤ b
  tb : 0 ≤ h.Total ∧ h.Total ≤ b
def hv0 (n : Nat) : Heavy := ⟨List.replicate n ⟨#[]⟩, List.replicate n 0, 0, 0⟩
end
end Pl
end Go.Proofs.YtbhmdnjammnlnaaGreatDoor

namespace Go.Proofs.YtbhmdnjammnlnaaGreatDoor
open Go.RowKit
namespace Mm
structure Flat1 {α : Type} (E : Rep α) (val : α → Value) : Prop where
  size : E.size = 1
  one : ∀ x, (val x).oneCell' = true
  inv : ∀ {w x cs fx}, E.own w x cs fx → cs = [val x] ∧ fx = [] ∧ ∀ w', E.own w' x [val x] []
theorem fm_val {α : Type} (val : α → Value) : ∀ xs : List α, xs.flatMap (fun x => [val x]) = xs.map val
  | [] => rfl
  | a :: t => by rw [List.flatMap_cons, fm_val val t]; rfl
theorem shape_blk {w : World} {g : Nat} {t : TypeId} {cs : List Value} (h : Blk w g t cs) : w.shape? g = some (t, cs.length) := by
  unfold Blk at h
  unfold World.shape?
  rw [h]
  simp
section
variable {α : Type} {E : Rep α} {val : α → Value} {e : TypeId} {w w' : World} {xs : List α} {v : Value} {fp : List Nat} {g n c : Nat}
theorem Flat1.owns (hF : Flat1 E val) (h : SlOwn E e w xs v fp) : w.ownsRow 0 e 1 v xs.length (xs.map val) ∧ fp = v.ownBlock.toList ∧ ∀ x, x ∈ xs → ∀ w', E.own w' x [val x] [] := by
  obtain ⟨es, he, ho, rfl⟩ := h
  have h1 : es = xs.map fun x => ([val x], ([] : List Nat)) := by
    apply List.ext_getElem?
    intro i
    rw [List.getElem?_map]
    rcases Nat.lt_or_ge i xs.length with hi | hi
    · have hx := List.getElem?_eq_getElem hi
      have hy := List.getElem?_eq_getElem (show i < es.length by rw [he.1]; exact hi)
      have h2 := hF.inv (he.2 i _ _ hx hy)
      rw [hx, hy]
      exact congrArg some (Prod.ext h2.1 h2.2.1)
    · rw [List.getElem?_eq_none hi, List.getElem?_eq_none (by rw [he.1]; exact hi)]
      rfl
  have h3 : (xs.map fun x => ([val x], ([] : List Nat))).flatMap (·.1) = xs.map val := by rw [List.flatMap_map]; exact fm_val val xs
  have h4 : (xs.map fun x => ([val x], ([] : List Nat))).flatMap (·.2) = [] := by simp [List.flatMap_map]
  refine ⟨?_, by rw [h1, h4]; simp, fun x hx w' => ?_⟩
  · rw [h1, h3, hF.size] at ho
    exact ho
  · obtain ⟨i, hi, rfl⟩ := List.mem_iff_getElem.1 hx
    exact (hF.inv (he.2 i _ _ (List.getElem?_eq_getElem hi) (List.getElem?_eq_getElem (show i < es.length by rw [he.1]; exact hi)))).2.2 w'
theorem Flat1.row (hF : Flat1 E val) (ho : w.ownsRow 0 e 1 v xs.length (xs.map val)) (hE : ∀ x, x ∈ xs → E.own w x [val x] []) : SlOwn E e w xs v v.ownBlock.toList :=
  SlOwn.of_row (enc := fun x => [val x]) (by
    rw [hF.size, show xs.flatMap (fun x => [val x]) = xs.map val from fm_val val xs]
    exact ho) hE rfl
theorem Flat1.blk (hF : Flat1 E val) (h : SlOwn E e w xs (.slice (some ⟨g, 0, none⟩) n c) fp) : ∃ cur, Blk w g e cur ∧ cur.length = c ∧ cur.take n = xs.map val ∧ n = xs.length ∧ n ≤ c ∧ c ≤ maxLen ∧ fp = [g] := by
  obtain ⟨h1, h2, _⟩ := hF.owns h
  rcases h1.2 with ⟨h3, _⟩ | ⟨g', cap, cur, h3, _, hg, hnc, hcm, hcs, htake⟩
  · simp at h3
  · simp only [Value.slice.injEq, Option.some.injEq, Addr.mk.injEq, and_true] at h3
    obtain ⟨rfl, rfl, rfl⟩ := h3
    refine ⟨cur.toList, by unfold Blk; rw [Array.toArray_toList]; exact hg, by simpa using hcs, by simpa using htake, rfl, hnc, hcm, by rw [h2]; simp [Value.ownBlock]⟩
theorem Flat1.of_blk (hF : Flat1 E val) {cur : List Value} (h : Blk w g e cur) (hl : cur.length = c) (ht : cur.take n = xs.map val) (hn : xs.length = n) (hnc : n ≤ c) (hc : c ≤ maxLen) (hE : ∀ x, x ∈ xs → E.own w x [val x] []) : SlOwn E e w xs (.slice (some ⟨g, 0, none⟩) n c) [g] := by
  subst hn
  exact hF.row ⟨by simp, .inr ⟨g, c, cur.toArray, rfl, Nat.zero_le _, h, hnc, hc, by simpa using hl, by simpa using ht⟩⟩ hE
theorem Flat1.cell (hF : Flat1 E val) (h : SlOwn E e w xs (.slice (some ⟨g, 0, none⟩) n c) fp) {k : Nat} {x : α} (hk : xs[k]? = some x) : w.cell? ⟨g, k, none⟩ = some (val x) := by
  obtain ⟨cur, hb, hcl, ht, hn, hnc, _⟩ := hF.blk h
  have hkn := (List.getElem?_eq_some_iff.1 hk).1
  refine hb.cell ?_
  have h1 : (cur.take n)[k]? = some (val x) := by rw [ht, List.getElem?_map, hk]; rfl
  rw [List.getElem?_take, if_pos (by omega)] at h1
  exact h1
theorem setCells_blk : ∀ (vs : List Value) (w : World) (o : Nat) (cs : List Value), Blk w g e cs → Blk (w.setCells g o vs) g e (setList cs o vs)
  | [], _, _, _, h => h
  | v :: r, _, o, _, h => setCells_blk r _ (o + 1) _ (h.set_ o v)
theorem setCells_chg (g : Nat) : ∀ (vs : List Value) (w : World) (o : Nat), Chg [g] w (w.setCells g o vs)
  | [], w, _ => Chg.refl _ _
  | v :: r, w, o => ((Chg.refl [g] w).setCell (p := ⟨g, o, none⟩) (by simp) v).trans (setCells_chg g r _ (o + 1))
end
section
variable {P : Program} (w : World)
end
end Mm
end Go.Proofs.YtbhmdnjammnlnaaGreatDoor

namespace Go.Proofs.YtbhmdnjammnlnaaGreatDoor
open Go.RowKit
namespace Mm
section
variable {P : Program}
theorem run_copy_k (w : World) (dT sT ty elem : TypeId) (s b o dLen dCap : Nat) (a : Addr) (sLen sCap : Nat) (cs : List Value)
    (hu : P.underlying dT = some (.slice elem)) (hs : (P.info? elem).map (·.size) = some s) (hn : cs.length = Nat.min sLen dLen * s)
    (hsrc : ∀ j v, cs[j]? = some v → w.cell? (a.add j) = some v) (hc : ∀ j, j < cs.length → (w.cell? ⟨b, o + j, none⟩).isSome = true) (hf : ∀ j, j < cs.length → w.frozen? ⟨b, o + j, none⟩ = false) (h1 : ∀ v ∈ cs, v.oneCell' = true) :
    (Builtin.copy_ #[dT, sT] ty #[.slice (some ⟨b, o, none⟩) dLen dCap, .slice (some a) sLen sCap]).run P w = .ok (goInt (Nat.min sLen dLen)) (w.setCells b o cs) := by
  have hl := run_loadCells_list (P := P) w a cs hsrc
  have hst := run_storeCells_cells (P := P) b o cs 0 w (by simpa using hc) (by simpa using hf) h1
  cases hq : P.info? elem with
  | none => simp [hq] at hs
  | some i =>
    have hi : i.size = s := by simpa [hq] using hs
    simp [Builtin.copy_, run_underlying hu, Builtin.lenOf, Builtin.firstCells, sizeOf, typeInfo, hq, hi, ← hn, hl, hst]
end
theorem ins_rows {cur cells ct : List Value} {N K S : Nat} (ht : cur.take N = cells) (hl : cells.length = N) (hK : K ≤ N) (hS : ct.length = S) (hroom : N + S ≤ cur.length) :
    (setList (setList cur (K + S) (cells.drop K)) K ct).take (N + S) = cells.take K ++ ct ++ cells.drop K := by
  apply List.ext_getElem?
  intro j
  rw [List.getElem?_take]
  by_cases hj : j < N + S
  · rw [if_pos hj, setList_get _ _ _ _ (by rw [setList_len, hS]; omega), setList_get _ _ _ _ (by rw [List.length_drop, hl]; omega), List.length_drop, hl, hS]
    by_cases h1 : j < K
    · rw [if_neg (by omega), if_neg (by omega), List.append_assoc, List.getElem?_append_left (by rw [List.length_take, hl]; omega), List.getElem?_take, if_pos h1, ← ht, List.getElem?_take, if_pos (by omega)]
    · by_cases h2 : j < K + S
      · rw [if_pos ⟨by omega, h2⟩, List.append_assoc, List.getElem?_append_right (by rw [List.length_take, hl]; omega), List.length_take, hl, Nat.min_eq_left hK, List.getElem?_append_left (by omega)]
      · rw [if_neg (by omega), if_pos (by omega), List.getElem?_append_right (by rw [List.length_append, List.length_take, hl]; omega), List.length_append, List.length_take, hl, Nat.min_eq_left hK, hS]
  · rw [if_neg hj, List.getElem?_eq_none (by rw [List.length_append, List.length_append, List.length_take, List.length_drop, hl, hS]; omega)]
theorem ins_rows' {cur cells ct : List Value} {N K S : Nat} (ht : cur.take K = cells.take K) (hl : cells.length = N) (hK : K ≤ N) (hS : ct.length = S) (hroom : N + S ≤ cur.length) :
    (setList (setList cur K ct) (K + S) (cells.drop K)).take (N + S) = cells.take K ++ ct ++ cells.drop K := by
  apply List.ext_getElem?
  intro j
  rw [List.getElem?_take]
  by_cases hj : j < N + S
  · rw [if_pos hj, setList_get _ _ _ _ (by rw [setList_len, List.length_drop, hl]; omega), setList_get _ _ _ _ (by rw [hS]; omega), List.length_drop, hl, hS]
    by_cases h1 : j < K
    · have h2 : cur[j]? = (cells.take K)[j]? := by rw [← ht, List.getElem?_take, if_pos h1]
      rw [if_neg (by omega), if_neg (by omega), List.append_assoc, List.getElem?_append_left (by rw [List.length_take, hl]; omega), h2]
    · by_cases h2 : j < K + S
      · rw [if_neg (by omega), if_pos ⟨by omega, h2⟩, List.append_assoc, List.getElem?_append_right (by rw [List.length_take, hl]; omega), List.length_take, hl, Nat.min_eq_left hK, List.getElem?_append_left (by omega)]
      · rw [if_pos (by omega), List.getElem?_append_right (by rw [List.length_append, List.length_take, hl]; omega), List.length_append, List.length_take, hl, Nat.min_eq_left hK, hS]
  · rw [if_neg hj, List.getElem?_eq_none (by rw [List.length_append, List.length_append, List.length_take, List.length_drop, hl, hS]; omega)]
def insertAt {α : Type} (l : List α) (k : Nat) (x : α) : List α := l.take k ++ x :: l.drop k
theorem insertAt_len {α : Type} (l : List α) (k : Nat) (x : α) : (insertAt l k x).length = l.length + 1 := by
  unfold insertAt
  rw [List.length_append, List.length_cons, ← List.take_append_drop k l, List.length_append]
  simp; omega
theorem rowsMap_take {β γ : Type} (f : β → List γ) (s : Nat) : ∀ (l : List β) (k : Nat), (∀ y ∈ l, (f y).length = s) → (l.take k).flatMap f = (l.flatMap f).take (k * s)
  | [], k, _ => by simp
  | z :: t, 0, _ => by simp
  | z :: t, k + 1, h => by
    have hz := h z (by simp)
    have e0 : (k + 1) * s = s + k * s := by rw [Nat.add_mul]; omega
    have e1 : (f z).take (s + k * s) = f z := List.take_of_length_le (by omega)
    rw [List.take_succ_cons, List.flatMap_cons, List.flatMap_cons, rowsMap_take f s t k (fun y hy => h y (by simp [hy])), List.take_append, hz, e0, e1, Nat.add_sub_cancel_left]
theorem rowsMap_drop {β γ : Type} (f : β → List γ) (s : Nat) : ∀ (l : List β) (k : Nat), (∀ y ∈ l, (f y).length = s) → (l.drop k).flatMap f = (l.flatMap f).drop (k * s)
  | [], k, _ => by simp
  | z :: t, 0, _ => by simp
  | z :: t, k + 1, h => by
    have hz := h z (by simp)
    have e0 : (k + 1) * s = s + k * s := by rw [Nat.add_mul]; omega
    have e1 : (f z).drop (s + k * s) = [] := List.drop_of_length_le (by omega)
    rw [List.drop_succ_cons, List.flatMap_cons, rowsMap_drop f s t k (fun y hy => h y (by simp [hy])), List.drop_append, hz, e0, e1, Nat.add_sub_cancel_left, List.nil_append]
theorem insertAt_flat {β γ : Type} (f : β → List γ) (s : Nat) (l : List β) (k : Nat) (x : β) (h : ∀ y ∈ l, (f y).length = s) : (insertAt l k x).flatMap f = (l.flatMap f).take (k * s) ++ f x ++ (l.flatMap f).drop (k * s) := by
  unfold insertAt
  rw [List.flatMap_append, List.flatMap_cons, rowsMap_take f s l k h, rowsMap_drop f s l k h, List.append_assoc]
theorem insertAt_get {α : Type} {l : List α} {k i : Nat} {x y : α} (hk : k ≤ l.length) (h : (insertAt l k x)[i]? = some y) : (i < k ∧ l[i]? = some y) ∨ (i = k ∧ y = x) ∨ (k < i ∧ l[i - 1]? = some y) := by
  unfold insertAt at h
  by_cases h1 : i < k
  · rw [List.getElem?_append_left (by rw [List.length_take]; omega), List.getElem?_take, if_pos h1] at h
    exact .inl ⟨h1, h⟩
  · rw [List.getElem?_append_right (by rw [List.length_take]; omega), List.length_take, Nat.min_eq_left hk] at h
    by_cases h2 : i = k
    · subst h2
      rw [Nat.sub_self] at h
      exact .inr (.inl ⟨rfl, by simpa using h.symm⟩)
    · rw [show i - k = (i - k - 1) + 1 by omega, List.getElem?_cons_succ, List.getElem?_drop, show k + (i - k - 1) = i - 1 by omega] at h
      exact .inr (.inr ⟨by omega, h⟩)
theorem insertAt_perm {α : Type} (l : List α) (k : Nat) (x : α) : (insertAt l k x).Perm (x :: l) := by
  unfold insertAt
  refine (List.perm_middle).trans ?_
  rw [List.take_append_drop]
section
variable {α : Type} {E : Rep α} {e : TypeId} {w w' : World} {xs : List α} {v v' : Value} {fp : List Nat}
theorem SlOwn.insert (h : SlOwn E e w xs v fp) {k : Nat} (hk : k ≤ xs.length) {x : α} {cx : List Value} {fx : List Nat} (hx : E.own w x cx fx) (hnd : fp.Nodup) (hxd : fx.Nodup) (hdis : ∀ b, b ∈ fx → b ∉ fp) :
    ∃ l, w.ownsRow 0 e E.size v xs.length l ∧ (∀ u ∈ l, u.oneCell' = true) ∧ ∀ v' w', w'.ownsRow 0 e E.size v' (xs.length + 1) (l.take (k * E.size) ++ cx ++ l.drop (k * E.size)) → w.grownBy w' v.ownBlock → (v'.ownBlock = v.ownBlock ∨ ∀ g, v'.ownBlock = some g → w.heap.size ≤ g) →
      ∃ fp', SlOwn E e w' (insertAt xs k x) v' fp' ∧ fp'.Nodup ∧ ∀ b, b ∈ fp' → b ∈ fp ∨ b ∈ fx ∨ w.heap.size ≤ b := by
  have hlt := h.olt
  have hxlt := E.olt hx
  obtain ⟨es, he, ho, rfl⟩ := h
  refine ⟨_, ho, fun u hu => ?_, fun v' w' ho' hg hat => ?_⟩
  · obtain ⟨y, hy, hu⟩ := List.mem_flatMap.1 hu
    obtain ⟨z, _, hz⟩ := he.mem hy
    exact E.one hz u hu
  have hkeep : ∀ b, b ∈ es.flatMap (·.2) → w'.heap[b]? = w.heap[b]? := fun b hb => hg.block b (hlt b (List.mem_append_right _ hb)) (fun hv => by
    rw [List.nodup_append] at hnd
    exact hnd.2.2 b (by rw [← hv]; simp) b hb rfl)
  have hkx : ∀ b, b ∈ fx → w'.heap[b]? = w.heap[b]? := fun b hb => hg.block b (hxlt b hb) (fun hv => hdis b hb (List.mem_append_left _ (by rw [← hv]; simp)))
  have hke : k ≤ es.length := by rw [he.1]; exact hk
  have hp : ((insertAt es k (cx, fx)).flatMap (·.2)).Perm (fx ++ es.flatMap (·.2)) := by
    have := (insertAt_perm es k (cx, fx)).flatMap_right (fun y => y.2)
    rwa [List.flatMap_cons] at this
  refine ⟨_, ⟨insertAt es k (cx, fx), ⟨by rw [insertAt_len, insertAt_len, he.1], fun i y z hy hz => ?_⟩, ?_, rfl⟩, ?_, ?_⟩
  · rcases insertAt_get hk hy with ⟨h1, h2⟩ | ⟨h1, h2⟩ | ⟨h1, h2⟩
    · rcases insertAt_get hke hz with ⟨g1, g2⟩ | ⟨g1, g2⟩ | ⟨g1, g2⟩
      · exact E.okeep (he.2 i y z h2 g2) fun b hb => hkeep b (List.mem_flatMap.2 ⟨z, List.mem_of_getElem? g2, hb⟩)
      · omega
      · omega
    · rcases insertAt_get hke hz with ⟨g1, g2⟩ | ⟨g1, g2⟩ | ⟨g1, g2⟩
      · omega
      · subst h2; subst g2
        exact E.okeep hx hkx
      · omega
    · rcases insertAt_get hke hz with ⟨g1, g2⟩ | ⟨g1, g2⟩ | ⟨g1, g2⟩
      · omega
      · omega
      · exact E.okeep (he.2 _ y z h2 g2) fun b hb => hkeep b (List.mem_flatMap.2 ⟨z, List.mem_of_getElem? g2, hb⟩)
  · rw [insertAt_len, insertAt_flat (·.1) E.size es k (cx, fx) he.len]
    exact ho'
  · have hvn : ∀ b, b ∈ v'.ownBlock.toList → b ∉ es.flatMap (·.2) ∧ b ∉ fx := fun b hb => by
      rcases hat with hat | hat
      · rw [hat] at hb
        rw [List.nodup_append] at hnd
        exact ⟨fun hm => hnd.2.2 b hb b hm rfl, fun hm => hdis b hm (List.mem_append_left _ hb)⟩
      · have hb' := hat b (by simpa using hb)
        exact ⟨fun hm => by have := hlt _ (List.mem_append_right _ hm); omega, fun hm => by have := hxlt _ hm; omega⟩
    have h1 : v'.ownBlock.toList.Nodup := by cases v'.ownBlock <;> simp
    rw [List.nodup_append] at hnd ⊢
    refine ⟨h1, ?_, fun a ha b hb hab => ?_⟩
    · rw [hp.nodup_iff, List.nodup_append]
      exact ⟨hxd, hnd.2.1, fun a ha b hb hab => by
        subst hab
        exact hdis a ha (List.mem_append_right _ hb)⟩
    · subst hab
      rcases List.mem_append.1 (hp.mem_iff.1 hb) with hb | hb
      · exact (hvn a ha).2 hb
      · exact (hvn a ha).1 hb
  · intro b hb
    rcases List.mem_append.1 hb with hb | hb
    · rcases hat with hat | hat
      · rw [hat] at hb
        exact .inl (List.mem_append_left _ hb)
      · exact .inr (.inr (hat b (by simpa using hb)))
    · rcases List.mem_append.1 (hp.mem_iff.1 hb) with hb | hb
      · exact .inr (.inl hb)
      · exact .inl (List.mem_append_right _ hb)
end
section
variable {F : List Nat} {w0 wr W2 : World} {ts : List Thing} {s : Thing} {i j : Nat} {α : Type} {E : Rep α} {e : TypeId} {xs : List α} {v : Value} {fp : List Nat} {x : α} {cx : List Value}
theorem SepF.insert (h : SepF F w0 wr ts) (i j : Nat) (hij : i ≠ j) {k : Nat} (hi : ts[i]? = some (tsl E e xs v fp)) (hk : k ≤ xs.length) (hj : ts[j]? = some s) (hb : Below wr.heap.size wr W2) (hx : ∀ W, s.holds W → E.own W x cx s.fp) :
    ∃ l, W2.ownsRow 0 e E.size v xs.length l ∧ (∀ u ∈ l, u.oneCell' = true) ∧ ∀ v' w1, w1.ownsRow 0 e E.size v' (xs.length + 1) (l.take (k * E.size) ++ cx ++ l.drop (k * E.size)) → W2.grownBy w1 v.ownBlock → (v'.ownBlock = v.ownBlock ∨ ∀ g, v'.ownBlock = some g → W2.heap.size ≤ g) →
      ∃ fp', SepF F w0 w1 ((ts.set j tnil).set i (tsl E e (insertAt xs k x) v' fp')) := by
  have h2 := h.step hb
  have ho : SlOwn E e W2 xs v fp := h2.at_ i hi
  have hs := hx _ (h2.at_ j hj)
  obtain ⟨l, k1, k0, k2⟩ := ho.insert hk hs (h2.ndat hi) (h2.ndat hj) (fun b hb hm => h2.apart hi hj hij b hm hb)
  refine ⟨l, k1, k0, fun v' w1 g1 g2 g3 => ?_⟩
  obtain ⟨fp', m1, m2, m3⟩ := k2 v' w1 g1 g2 g3
  refine ⟨fp', h2.upd2 hij hi hj ?_ m1 m2 (fun b hb => ?_)⟩
  · exact ⟨g2.os, g2.tape, g2.output, g2.size, fun k hk hn => g2.block k hk (fun hh => hn (List.mem_append_left _ (row_in ho hh.symm)))⟩
  · rcases m3 b hb with h | h | h
    · exact .inl h
    · exact .inr (.inl h)
    · exact .inr (.inr (by omega))
end
end Mm
end Go.Proofs.YtbhmdnjammnlnaaGreatDoor

namespace Go.Proofs.YtbhmdnjammnlnaaGreatDoor
open Go.RowKit
namespace Pl
theorem rcmp_lt : ∀ a b : List UInt8, decide (Lib.compareBytes a b < 0) = Op.bytesLess a b
  | [], [] => rfl
  | [], _ :: _ => rfl
  | _ :: _, [] => rfl
  | a :: x, b :: y => by
    rw [Lib.compareBytes, Op.bytesLess]
    by_cases h1 : a < b
    · simp [h1]
    · by_cases h2 : b < a
      · have h3 : (a == b) = false := by
          rw [beq_eq_false_iff_ne]
          intro e
          subst e
          exact UInt8.lt_irrefl _ h2
        simp [h1, h2, h3]
      · have h3 : a = b := by
          apply UInt8.toNat_inj.1
          have k1 : ¬ a.toNat < b.toNat := h1
          have k2 : ¬ b.toNat < a.toNat := h2
          omega
        subst h3
        simp [UInt8.lt_irrefl]
        have := rcmp_lt x y
        simpa using this
theorem rcmp_zero : ∀ a b : List UInt8, Lib.compareBytes a b = 0 ↔ a = b
  | [], [] => by simp [Lib.compareBytes]
  | [], _ :: _ => by simp [Lib.compareBytes]
  | _ :: _, [] => by simp [Lib.compareBytes]
  | a :: x, b :: y => by
    rw [Lib.compareBytes]
    by_cases h1 : a < b
    · rw [if_pos h1]
      constructor
      · intro h; omega
      · intro h; injection h with h _; subst h; exact absurd h1 (UInt8.lt_irrefl _)
    · rw [if_neg h1]
      by_cases h2 : b < a
      · rw [if_pos h2]
        constructor
        · intro h; omega
        · intro h; injection h with h _; subst h; exact absurd h2 (UInt8.lt_irrefl _)
      · have h3 : a = b := by
          apply UInt8.toNat_inj.1
          have k1 : ¬ a.toNat < b.toNat := h1
          have k2 : ¬ b.toNat < a.toNat := h2
          omega
        subst h3
        rw [if_neg h2, rcmp_zero x y]
        simp
def rnm (x : Row) : ByteArray := x.Name
def RSort (l : List Row) : Prop := ∀ (i j : Nat) x y, i < j → l[i]? = some x → l[j]? = some y → lessB (rnm x) (rnm y) = true
def rpos (s : ByteArray) : List Row → Nat
  | [] => 0
  | x :: r => if lessB (rnm x) s = true then rpos s r + 1 else 0
theorem RSort.tail {x : Row} {l : List Row} (h : RSort (x :: l)) : RSort l := fun i j a b hij ha hb => h (i + 1) (j + 1) a b (by omega) ha hb
theorem rpos_le (s : ByteArray) : ∀ l, rpos s l ≤ l.length
  | [] => Nat.le_refl _
  | x :: r => by
    unfold rpos
    have := rpos_le s r
    split <;> simp <;> omega
theorem rpos_lt (s : ByteArray) : ∀ (l : List Row) (i : Nat) (x : Row), i < rpos s l → l[i]? = some x → lessB (rnm x) s = true
  | [], _, _, h, _ => by simp [rpos] at h
  | y :: r, i, x, h, hx => by
    unfold rpos at h
    split at h
    · rename_i hy
      cases i with
      | zero => simp at hx; subst hx; exact hy
      | succ i => exact rpos_lt s r i x (by omega) (by simpa using hx)
    · omega
theorem rless_trans {a b c : ByteArray} (h : lessB a b = true) (k : lessB b c = true) : lessB a c = true := bless_trans h k
theorem rless_irrefl (a : ByteArray) : lessB a a = false := bless_irrefl _
theorem rpos_ge (s : ByteArray) : ∀ (l : List Row), RSort l → ∀ (i : Nat) (x : Row), rpos s l ≤ i → l[i]? = some x → lessB (rnm x) s = false
  | [], _, _, _, _, h => by simp at h
  | y :: r, hs, i, x, h, hx => by
    unfold rpos at h
    split at h
    · cases i with
      | zero => omega
      | succ i => exact rpos_ge s r hs.tail i x (by omega) (by simpa using hx)
    · rename_i hy
      cases i with
      | zero => simp at hx; subst hx; simpa using hy
      | succ i =>
        have h1 := hs 0 (i + 1) y x (by omega) rfl hx
        cases hc : lessB (rnm x) s with
        | false => rfl
        | true => exact absurd (rless_trans h1 hc) hy
theorem rless_total {a b : ByteArray} (h : a ≠ b) : lessB a b = true ∨ lessB b a = true := bless_total (fun e => h (ba_inj e))
theorem RSort.set {l : List Row} (h : RSort l) {p : Nat} {o o' : Row} (hp : l[p]? = some o) (he : rnm o' = rnm o) : RSort (l.set p o') := by
  have get : ∀ i y, (l.set p o')[i]? = some y → ∃ z, l[i]? = some z ∧ rnm z = rnm y := fun i y hy => by
    by_cases hi : p = i
    · subst hi
      rw [List.getElem?_set_self (List.getElem?_eq_some_iff.1 hp).1] at hy
      injection hy with hy
      subst hy
      exact ⟨o, hp, he.symm⟩
    · rw [List.getElem?_set_ne hi] at hy
      exact ⟨y, hy, rfl⟩
  intro i j x y hij hx hy
  obtain ⟨x', hx', ex⟩ := get i x hx
  obtain ⟨y', hy', ey⟩ := get j y hy
  rw [← ex, ← ey]
  exact h i j x' y' hij hx' hy'
theorem RSort.insert {l : List Row} (h : RSort l) {t : Row} (hm : ∀ o, l[rpos (rnm t) l]? = some o → rnm o ≠ rnm t) : RSort (Mm.insertAt l (rpos (rnm t) l) t) := by
  have hk := rpos_le (rnm t) l
  have hgt : ∀ (i : Nat) (x : Row), rpos (rnm t) l ≤ i → l[i]? = some x → lessB (rnm t) (rnm x) = true := fun i x hi hx => by
    have hlt := (List.getElem?_eq_some_iff.1 hx).1
    obtain ⟨o, ho⟩ : ∃ o, l[rpos (rnm t) l]? = some o := ⟨_, List.getElem?_eq_getElem (by omega)⟩
    have h1 := rpos_ge (rnm t) l h _ o (Nat.le_refl _) ho
    have h2 : lessB (rnm t) (rnm o) = true := by
      rcases rless_total (hm o ho) with h3 | h3
      · rw [h1] at h3; cases h3
      · exact h3
    by_cases he : rpos (rnm t) l = i
    · rw [he, hx] at ho
      injection ho with ho
      rw [ho]; exact h2
    · exact rless_trans h2 (h _ _ o x (by omega) ho hx)
  intro i j x y hij hx hy
  rcases Mm.insertAt_get hk hx with ⟨a1, a2⟩ | ⟨a1, a2⟩ | ⟨a1, a2⟩
  · rcases Mm.insertAt_get hk hy with ⟨b1, b2⟩ | ⟨b1, b2⟩ | ⟨b1, b2⟩
    · exact h i j x y hij a2 b2
    · rw [b2]; exact rpos_lt _ l i x a1 a2
    · exact rless_trans (rpos_lt _ l i x a1 a2) (hgt _ y (by omega) b2)
  · rcases Mm.insertAt_get hk hy with ⟨b1, b2⟩ | ⟨b1, b2⟩ | ⟨b1, b2⟩
    · omega
    · omega
    · rw [a2]; exact hgt _ y (by omega) b2
  · rcases Mm.insertAt_get hk hy with ⟨b1, b2⟩ | ⟨b1, b2⟩ | ⟨b1, b2⟩
    · omega
    · omega
    · exact h (i - 1) (j - 1) x y (by omega) a2 b2
def lastAt (r : Row) : Int := (sampleAt r.Samples (r.Samples.length - 1)).At
def hitS (h : Head) (p : Nat) (r : Row) (x : Say) : Head × Int :=
  if lastAt r = x.At then (⟨h.Rows, h.Offset + 1⟩, 2) else if x.At < lastAt r then (⟨h.Rows, h.Offset + 1⟩, 3) else if r.Samples.length = 40 then (⟨h.Rows, h.Offset + 1⟩, 4)
  else (⟨h.Rows.set p ⟨r.Name, r.Samples ++ [⟨x.At, x.Value⟩]⟩, h.Offset + 1⟩, 1)
def missS (h : Head) (p : Nat) (x : Say) : Head × Int :=
  if h.Rows.length = 8 then (⟨h.Rows, h.Offset + 1⟩, 4) else (⟨Mm.insertAt h.Rows p ⟨x.Name, [⟨x.At, x.Value⟩]⟩, h.Offset + 1⟩, 1)
def takeS (h : Head) (x : Say) : Head × Int :=
  match h.Rows[rpos x.Name h.Rows]? with
  | some r => if r.Name = x.Name then hitS h (rpos x.Name h.Rows) r x else missS h (rpos x.Name h.Rows) x
  | none => missS h (rpos x.Name h.Rows) x
theorem takeS_hit {h : Head} {x : Say} {r : Row} (hr : h.Rows[rpos x.Name h.Rows]? = some r) (he : r.Name = x.Name) : takeS h x = hitS h (rpos x.Name h.Rows) r x := by
  unfold takeS; rw [hr]; exact if_pos he
theorem takeS_miss {h : Head} {x : Say} (hm : ∀ o, h.Rows[rpos x.Name h.Rows]? = some o → rnm o ≠ x.Name) : takeS h x = missS h (rpos x.Name h.Rows) x := by
  unfold takeS
  split
  · rename_i r hr
    exact if_neg (hm r hr)
  · rfl
structure HW (h : Head) : Prop where
  srt : RSort h.Rows
  ne : ∀ r, r ∈ h.Rows → r.Samples ≠ [] ∧ r.Samples.length ≤ 40
  len : h.Rows.length ≤ 8
theorem HW.zero : HW ⟨[], 0⟩ := ⟨fun i j x y _ h => by simp at h, fun r h => by simp at h, Nat.zero_le _⟩
theorem HW.hit {h : Head} {x : Say} {p : Nat} {r : Row} (k : HW h) (hr : h.Rows[p]? = some r) : HW (hitS h p r x).1 := by
  have same : HW ⟨h.Rows, h.Offset + 1⟩ := ⟨k.srt, k.ne, k.len⟩
  unfold hitS
  split
  · exact same
  · split
    · exact same
    · split
      · exact same
      · rename_i h40
        refine ⟨k.srt.set hr rfl, fun z hz => ?_, by rw [List.length_set]; exact k.len⟩
        rcases List.mem_or_eq_of_mem_set hz with h1 | rfl
        · exact k.ne z h1
        · have h2 := (k.ne r (List.mem_of_getElem? hr)).2
          exact ⟨by simp, by show (r.Samples ++ [_]).length ≤ 40; rw [List.length_append]; simp; omega⟩
theorem HW.miss {h : Head} {x : Say} (k : HW h) (hm : ∀ o, h.Rows[rpos x.Name h.Rows]? = some o → rnm o ≠ x.Name) : HW (missS h (rpos x.Name h.Rows) x).1 := by
  unfold missS
  split
  · exact ⟨k.srt, k.ne, k.len⟩
  · rename_i h8
    refine ⟨k.srt.insert (t := ⟨x.Name, [⟨x.At, x.Value⟩]⟩) hm, fun z hz => ?_, ?_⟩
    · rcases List.mem_cons.1 ((Mm.insertAt_perm _ _ _).mem_iff.1 hz) with rfl | h1
      · exact ⟨by simp, by simp⟩
      · exact k.ne z h1
    · have := k.len
      show (Mm.insertAt h.Rows _ _).length ≤ 8
      rw [Mm.insertAt_len]; omega
theorem HW.take {h : Head} (k : HW h) (x : Say) : HW (takeS h x).1 := by
  by_cases hh : ∃ r, h.Rows[rpos x.Name h.Rows]? = some r ∧ r.Name = x.Name
  · obtain ⟨r, hr, he⟩ := hh
    rw [takeS_hit hr he]; exact k.hit hr
  · have hm : ∀ o, h.Rows[rpos x.Name h.Rows]? = some o → rnm o ≠ x.Name := fun o ho he => hh ⟨o, ho, he⟩
    rw [takeS_miss hm]; exact k.miss hm
theorem hitS_off (h : Head) (p : Nat) (r : Row) (x : Say) : (hitS h p r x).1.Offset = h.Offset + 1 := by
  unfold hitS; repeat' split
  all_goals rfl
theorem missS_off (h : Head) (p : Nat) (x : Say) : (missS h p x).1.Offset = h.Offset + 1 := by
  unfold missS; repeat' split
  all_goals rfl
theorem takeS_off (h : Head) (x : Say) : (takeS h x).1.Offset = h.Offset + 1 := by
  unfold takeS
  split
  · split
    · exact hitS_off _ _ _ _
    · exact missS_off _ _ _
  · exact missS_off _ _ _
theorem takeS_code (h : Head) (x : Say) : 1 ≤ (takeS h x).2 ∧ (takeS h x).2 ≤ 4 := by
  have k1 : ∀ p r, 1 ≤ (hitS h p r x).2 ∧ (hitS h p r x).2 ≤ 4 := fun p r => by
    unfold hitS; repeat' split
    all_goals (constructor <;> (dsimp only; omega))
  have k2 : ∀ p, 1 ≤ (missS h p x).2 ∧ (missS h p x).2 ≤ 4 := fun p => by
    unfold missS; repeat' split
    all_goals (constructor <;> (dsimp only; omega))
  unfold takeS
  split
  · split
    · exact k1 _ _
    · exact k2 _
  · exact k2 _
def foldS (h : Head) (l : List Say) : Head := l.foldl (fun h x => (takeS h x).1) h
theorem foldS_snoc (h : Head) (l : List Say) (x : Say) : foldS h (l ++ [x]) = (takeS (foldS h l) x).1 := by unfold foldS; rw [List.foldl_append]; rfl
def foldC (h : Head) : List Say → List Int
  | [] => []
  | x :: l => (takeS h x).2 :: foldC (takeS h x).1 l
theorem foldC_snoc (l : List Say) (x : Say) : ∀ h, foldC h (l ++ [x]) = foldC h l ++ [(takeS (foldS h l) x).2] := by
  induction l with
  | nil => intro h; rfl
  | cons y l ih => intro h; show _ :: foldC _ (l ++ [x]) = _; rw [ih]; rfl
theorem foldC_len (l : List Say) : ∀ h, (foldC h l).length = l.length := by
  induction l with
  | nil => intro h; rfl
  | cons y l ih => intro h; show (foldC _ l).length + 1 = l.length + 1; rw [ih]
theorem HW.fold {h : Head} (k : HW h) (l : List Say) : HW (foldS h l) := by
  induction l generalizing h with
  | nil => exact k
  | cons x l ih => exact ih (k.take x)
theorem foldS_off (l : List Say) : ∀ h : Head, (foldS h l).Offset = h.Offset + l.length := by
  induction l with
  | nil => intro h; simp [foldS]
  | cons x l ih =>
    intro h
    show (foldS (takeS h x).1 l).Offset = _
    rw [ih, takeS_off, List.length_cons]; omega
theorem fold_next {h : Head} {l : List Say} {k : Nat} {x : Say} (hx : l[k]? = some x) : foldS h (l.take (k + 1)) = (takeS (foldS h (l.take k)) x).1 ∧ foldC h (l.take (k + 1)) = foldC h (l.take k) ++ [(takeS (foldS h (l.take k)) x).2] := by
  obtain ⟨hk, e⟩ := List.getElem?_eq_some_iff.1 hx
  rw [List.take_succ_eq_append_getElem hk, e]
  exact ⟨foldS_snoc _ _ _, foldC_snoc _ _ _⟩
def sayOk (x : Say) : Bool := word false x.Name.data.toList && sampleOk ⟨x.At, x.Value⟩
end Pl
end Go.Proofs.YtbhmdnjammnlnaaGreatDoor

namespace Go.Proofs.YtbhmdnjammnlnaaGreatDoor
open Go.RowKit
namespace Pl
def recLen (s : ByteArray) (k : Nat) : Option Nat :=
  match s.data.toList[k]? with
  | some b => if b.toNat ≤ 40 ∧ b.toNat % 2 = 0 ∧ k + 1 + b.toNat / 2 ≤ s.size then some (b.toNat / 2) else none
  | none => none
theorem recLen_le {s : ByteArray} {k n : Nat} (h : recLen s k = some n) : k + 1 + n ≤ s.size ∧ n ≤ 20 := by
  unfold recLen at h
  split at h
  · split at h
    · rename_i hb
      injection h with h
      omega
    · cases h
  · cases h
theorem recLen_yes {s : ByteArray} {k : Nat} {b : UInt8} (hb : s.data.toList[k]? = some b) (h : b.toNat ≤ 40 ∧ b.toNat % 2 = 0 ∧ k + 1 + b.toNat / 2 ≤ s.size) : recLen s k = some (b.toNat / 2) := by
  unfold recLen; rw [hb]; exact if_pos h
theorem recLen_end {s : ByteArray} {k : Nat} (h : s.size ≤ k) : recLen s k = none := by
  unfold recLen
  rw [List.getElem?_eq_none (by rw [Array.length_toList]; exact h)]
def recF (s : ByteArray) : Nat → Nat → List (Nat × Nat)
  | 0, _ => []
  | f + 1, k => match recLen s k with | some n => (k, n) :: recF s f (k + 1 + n) | none => []
def endF (s : ByteArray) : Nat → Nat → Nat
  | 0, k => k
  | f + 1, k => match recLen s k with | some n => endF s f (k + 1 + n) | none => k
theorem recF_more {s : ByteArray} : ∀ (f k : Nat), s.size ≤ k + f → ∀ g, f ≤ g → recF s g k = recF s f k ∧ endF s g k = endF s f k
  | 0, k, h, g, _ => by
    cases g with
    | zero => exact ⟨rfl, rfl⟩
    | succ g => unfold recF endF; rw [recLen_end (by omega)]; exact ⟨rfl, rfl⟩
  | f + 1, k, h, 0, hg => absurd hg (by omega)
  | f + 1, k, h, g + 1, hg => by
    unfold recF endF
    cases hr : recLen s k with
    | none => exact ⟨rfl, rfl⟩
    | some n =>
      obtain ⟨h1, h2⟩ := recF_more (s := s) f (k + 1 + n) (by omega) g (by omega)
      exact ⟨by show _ :: _ = _ :: _; rw [h1], h2⟩
def recsAt (s : ByteArray) (k : Nat) : List (Nat × Nat) := recF s s.size k
def endAt (s : ByteArray) (k : Nat) : Nat := endF s s.size k
theorem recsAt_some {s : ByteArray} {k n : Nat} (h : recLen s k = some n) : recsAt s k = (k, n) :: recsAt s (k + 1 + n) ∧ endAt s k = endAt s (k + 1 + n) := by
  have hl := (recLen_le h).1
  obtain ⟨g, hg⟩ : ∃ g, s.size = g + 1 := ⟨s.size - 1, by omega⟩
  have h1 := recF_more (s := s) g (k + 1 + n) (by omega) (g + 1) (by omega)
  unfold recsAt endAt
  rw [hg]
  constructor
  · rw [h1.1]
    show (match recLen s k with | some n => (k, n) :: recF s g (k + 1 + n) | none => []) = _
    rw [h]
  · rw [h1.2]
    show (match recLen s k with | some n => endF s g (k + 1 + n) | none => k) = _
    rw [h]
theorem recsAt_none {s : ByteArray} {k : Nat} (h : recLen s k = none) : recsAt s k = [] ∧ endAt s k = k := by
  unfold recsAt endAt
  cases s.size with
  | zero => exact ⟨rfl, rfl⟩
  | succ g => unfold recF endF; rw [h]; exact ⟨rfl, rfl⟩
def recs (s : ByteArray) : List (Nat × Nat) := recsAt s 0
def whole (s : ByteArray) : Nat := endAt s 0
def starts (s : ByteArray) : List Int := (recs s).map (fun p => (p.1 : Int))
def recTxt (s : ByteArray) (p : Nat × Nat) : ByteArray := s.extract (p.1 + 1) (p.1 + 1 + p.2)
def records (s : ByteArray) : List ByteArray := (recs s).map (recTxt s)
structure RecW (s : ByteArray) (done : List (Nat × Nat)) (k : Nat) : Prop where
  le : k ≤ s.size
  rest : recs s = done ++ recsAt s k
  fin : whole s = endAt s k
  dn : done.length ≤ k
theorem RecW.start (s : ByteArray) : RecW s [] 0 := ⟨Nat.zero_le _, rfl, rfl, Nat.zero_le _⟩
theorem RecW.next {s : ByteArray} {done : List (Nat × Nat)} {k n : Nat} (h : RecW s done k) (hr : recLen s k = some n) : RecW s (done ++ [(k, n)]) (k + 1 + n) := by
  obtain ⟨h1, h2⟩ := recsAt_some hr
  exact ⟨(recLen_le hr).1, by rw [h.rest, h1, List.append_assoc]; rfl, by rw [h.fin, h2], by rw [List.length_append]; have := h.dn; simp; omega⟩
theorem RecW.stop {s : ByteArray} {done : List (Nat × Nat)} {k : Nat} (h : RecW s done k) (hr : recLen s k = none) : recs s = done ∧ whole s = k := by
  obtain ⟨h1, h2⟩ := recsAt_none hr
  exact ⟨by rw [h.rest, h1, List.append_nil], by rw [h.fin, h2]⟩
def idx3 (l : List Int) : List Int := (l.zipIdx.filter (fun p => decide (p.2 % 3 = 0))).map (·.1)
theorem idx3_snoc (l : List Int) (x : Int) : idx3 (l ++ [x]) = if l.length % 3 = 0 then idx3 l ++ [x] else idx3 l := by
  unfold idx3
  rw [List.zipIdx_append, List.filter_append, List.map_append]
  by_cases h : l.length % 3 = 0
  · rw [if_pos h]; simp [h]
  · rw [if_neg h]; simp [h]
theorem idx3_len (l : List Int) : (idx3 l).length ≤ l.length := by
  unfold idx3
  rw [List.length_map]
  exact Nat.le_trans (List.length_filter_le _ _) (by simp)
theorem recF_mem (s : ByteArray) : ∀ (f k : Nat) (p : Nat × Nat), p ∈ recF s f k → recLen s p.1 = some p.2 ∧ k ≤ p.1
  | 0, _, _, h => by cases h
  | f + 1, k, p, h => by
    unfold recF at h
    split at h
    · rename_i n hn
      rcases List.mem_cons.1 h with rfl | h
      · exact ⟨hn, Nat.le_refl _⟩
      · have := recF_mem s f (k + 1 + n) p h
        exact ⟨this.1, by omega⟩
    · cases h
theorem recs_mem {s : ByteArray} {p : Nat × Nat} (h : p ∈ recs s) : recLen s p.1 = some p.2 := (recF_mem s _ _ p h).1
theorem recTxt_len {s : ByteArray} {p : Nat × Nat} (h : p ∈ recs s) : (recTxt s p).size = p.2 := by
  have := (recLen_le (recs_mem h)).1
  unfold recTxt
  rw [ByteArray.size_extract]
  omega
theorem recs_len (s : ByteArray) : (recs s).length ≤ s.size := by
  have : ∀ f k, (recF s f k).length ≤ f := by
    intro f
    induction f with
    | zero => intro k; simp [recF]
    | succ f ih =>
      intro k
      unfold recF
      split
      · rw [List.length_cons]; exact Nat.succ_le_succ (ih _)
      · simp
  exact this _ _
def rsum (l : List (Nat × Nat)) : Nat := l.foldl (fun a p => a + 1 + p.2) 0
theorem rsum_snoc (l : List (Nat × Nat)) (p : Nat × Nat) : rsum (l ++ [p]) = rsum l + 1 + p.2 := by unfold rsum; rw [List.foldl_append]; rfl
theorem sumF (s : ByteArray) : ∀ (f k i : Nat) (p : Nat × Nat), (recF s f k)[i]? = some p → p.1 = ((recF s f k).take i).foldl (fun a p => a + 1 + p.2) k
  | 0, _, _, _, h => by simp [recF] at h
  | f + 1, k, i, p, h => by
    unfold recF at h ⊢
    split at h
    · rename_i n hn
      cases i with
      | zero => simp at h; subst h; rfl
      | succ i =>
        show p.1 = ((recF s f (k + 1 + n)).take i).foldl (fun a p => a + 1 + p.2) (k + 1 + n)
        exact sumF s f (k + 1 + n) i p (by simpa using h)
    · simp at h
theorem recs_sum {s : ByteArray} {i : Nat} {p : Nat × Nat} (h : (recs s)[i]? = some p) : p.1 = rsum ((recs s).take i) := sumF s _ 0 i p h
def pieceOf (from_ : Int) (s : ByteArray) : Piece := ⟨from_, s, idx3 (starts s)⟩
def pieceOk (p : Piece) : Bool := decide (p.Bytes.size ≤ 60) && decide (whole p.Bytes = p.Bytes.size) && decide (p.Index = idx3 (starts p.Bytes))
end Pl
end Go.Proofs.YtbhmdnjammnlnaaGreatDoor

namespace Go.Proofs.YtbhmdnjammnlnaaGreatDoor
open Go.RowKit
namespace Pl
theorem digitVal_of {d : Nat} (h : d < 10) : Lib.digitVal (UInt8.ofNat (48 + d)) = some d := by
  have : (UInt8.ofNat (48 + d)).toNat = 48 + d := by rw [UInt8.toNat_ofNat']; omega
  unfold Lib.digitVal
  rw [this, if_pos (by omega)]
  congr 1; omega
theorem decFrom_app : ∀ (a b : List UInt8) (acc : Nat), Lib.decFrom acc (a ++ b) = (Lib.decFrom acc a).bind fun n => Lib.decFrom n b
  | [], b, acc => rfl
  | c :: a, b, acc => by
    show Lib.decFrom acc (c :: (a ++ b)) = _
    rw [show Lib.decFrom acc (c :: (a ++ b)) = match Lib.digitVal c with | some d => Lib.decFrom (acc * 10 + d) (a ++ b) | none => none from rfl, show Lib.decFrom acc (c :: a) = match Lib.digitVal c with | some d => Lib.decFrom (acc * 10 + d) a | none => none from rfl]
    cases Lib.digitVal c with
    | none => rfl
    | some d => exact decFrom_app a b _
theorem decFrom_digits : ∀ (u : Nat), Lib.decFrom 0 (Lib.decDigits u) = some u := by
  intro u
  induction u using Nat.strongRecOn with
  | _ u ih =>
    rw [Lib.decDigits]
    split
    · rename_i h
      unfold Lib.decFrom
      rw [digitVal_of h]
      show Lib.decFrom (0 * 10 + u) [] = _
      unfold Lib.decFrom
      congr 1; omega
    · rename_i h
      rw [decFrom_app, ih (u / 10) (by omega)]
      show Lib.decFrom (u / 10) [_] = _
      unfold Lib.decFrom
      rw [digitVal_of (by omega)]
      show Lib.decFrom _ [] = _
      unfold Lib.decFrom
      congr 1; omega
theorem digits_ne (u : Nat) : Lib.decDigits u ≠ [] := by
  intro h
  have := Lib.decDigits_length u
  have h2 := Lib.nDigits_pos u
  rw [h] at this
  simp at this; omega
theorem digits_mem (u : Nat) : ∀ b, b ∈ Lib.decDigits u → 48 ≤ b.toNat ∧ b.toNat ≤ 57 := by
  induction u using Nat.strongRecOn with
  | _ u ih =>
    intro b hb
    rw [Lib.decDigits] at hb
    split at hb
    · rename_i h
      rw [List.mem_singleton] at hb
      rw [hb, UInt8.toNat_ofNat']; omega
    · rename_i h
      rcases List.mem_append.1 hb with hb | hb
      · exact ih (u / 10) (by omega) b hb
      · rw [List.mem_singleton] at hb
        rw [hb, UInt8.toNat_ofNat']; omega
theorem decNat_digits (u : Nat) : Lib.decNat (Lib.decDigits u) = some u := by
  unfold Lib.decNat
  rw [if_neg (by have := digits_ne u; simpa using this), decFrom_digits]
theorem atoi_itoa (n : Int) : Lib.atoi (Lib.itoa n) = some n := by
  unfold Lib.itoa
  split
  · rename_i h
    rw [show Lib.atoi (45 :: Lib.decDigits n.natAbs) = (Lib.decNat (Lib.decDigits n.natAbs)).map fun (m : Nat) => -(m : Int) from rfl, decNat_digits]
    simp; omega
  · rename_i h
    have hm := digits_mem n.toNat
    have hd := decNat_digits n.toNat
    cases hl : Lib.decDigits n.toNat with
    | nil => exact absurd hl (digits_ne _)
    | cons b r =>
      rw [hl] at hm hd
      have hb := hm b (List.mem_cons_self ..)
      unfold Lib.atoi
      dsimp only
      rw [if_neg, if_neg, hd]
      · simp; omega
      · intro h; have := congrArg UInt8.toNat (beq_iff_eq.1 h); simp at this; omega
      · intro h; have := congrArg UInt8.toNat (beq_iff_eq.1 h); simp at this; omega
theorem itoa_inj {a b : Int} (h : Lib.itoa a = Lib.itoa b) : a = b := by
  have h1 := atoi_itoa a
  rw [h, atoi_itoa b] at h1
  exact (Option.some.inj h1).symm
theorem itoa_mem (n : Int) : ∀ b, b ∈ Lib.itoa n → b.toNat = 45 ∨ (48 ≤ b.toNat ∧ b.toNat ≤ 57) := by
  intro b hb
  unfold Lib.itoa at hb
  split at hb
  · rcases List.mem_cons.1 hb with rfl | hb
    · exact .inl rfl
    · exact .inr (digits_mem _ b hb)
  · exact .inr (digits_mem _ b hb)
def splitL (c : UInt8) : List UInt8 → List (List UInt8)
  | [] => [[]]
  | b :: l => if b = c then [] :: splitL c l else match splitL c l with | h :: t => (b :: h) :: t | [] => [[b]]
theorem splitL_ne (c : UInt8) : ∀ l, splitL c l ≠ []
  | [] => by simp [splitL]
  | b :: l => by
    unfold splitL
    split
    · simp
    · cases splitL c l <;> simp
theorem splitL_none {c : UInt8} : ∀ {l : List UInt8}, c ∉ l → splitL c l = [l]
  | [], _ => rfl
  | b :: l, h => by
    unfold splitL
    rw [if_neg (fun e => h (by rw [e]; exact List.mem_cons_self ..)), splitL_none (fun e => h (List.mem_cons_of_mem _ e))]
theorem splitL_cut {c : UInt8} : ∀ {a r : List UInt8}, c ∉ a → splitL c (a ++ c :: r) = a :: splitL c r
  | [], r, _ => by show splitL c (c :: r) = _; unfold splitL; rw [if_pos rfl]; cases r <;> rfl
  | b :: a, r, h => by
    show splitL c (b :: (a ++ c :: r)) = _
    unfold splitL
    rw [if_neg (fun e => h (by rw [e]; exact List.mem_cons_self ..)), splitL_cut (fun e => h (List.mem_cons_of_mem _ e))]
    cases r <;> rfl
theorem index_mem {c : UInt8} : ∀ {a r : List UInt8}, c ∉ a → Lib.index (a ++ c :: r) [c] = (a.length : Int)
  | [], r, _ => by show Lib.index (c :: r) [c] = _; rw [Lib.index]; simp [List.isPrefixOf]
  | b :: a, r, h => by
    have ih := index_mem (c := c) (a := a) (r := r) (fun e => h (List.mem_cons_of_mem _ e))
    have hbc : b ≠ c := fun e => h (by rw [e]; exact List.mem_cons_self ..)
    have hp : ([c] : List UInt8).isPrefixOf (b :: (a ++ c :: r)) = false := by simp [List.isPrefixOf, Ne.symm hbc]
    show Lib.index (b :: (a ++ c :: r)) [c] = _
    rw [Lib.index, hp, ih]
    have : ¬ ((a.length : Int) == -1) = true := fun e => by have := beq_iff_eq.1 e; omega
    simp [this]
theorem split_first {c : UInt8} : ∀ {l : List UInt8}, c ∈ l → ∃ a r, l = a ++ c :: r ∧ c ∉ a
  | b :: l, h => by
    by_cases hb : b = c
    · subst hb; exact ⟨[], l, rfl, by simp⟩
    · obtain ⟨a, r, rfl, ha⟩ := split_first (c := c) (l := l) (by rcases List.mem_cons.1 h with e | e; exact absurd e.symm hb; exact e)
      exact ⟨b :: a, r, rfl, by simp [Ne.symm hb, ha]⟩
theorem splitK_all (c : UInt8) : ∀ (k : Nat) (l : List UInt8), l.count c = k → Lib.splitK [c] 0 k l = splitL c l
  | 0, l, h => by rw [splitL_none (fun e => by have := List.count_pos_iff.2 e; omega)]; rfl
  | k + 1, l, h => by
    obtain ⟨a, r, rfl, ha⟩ := split_first (c := c) (l := l) (List.count_pos_iff.1 (by omega))
    have hi := index_mem (c := c) (a := a) (r := r) ha
    rw [splitL_cut ha]
    unfold Lib.splitK
    rw [hi, if_neg (fun e => by have := beq_iff_eq.1 e; omega)]
    have hc : (a ++ c :: r).count c = r.count c + 1 := by
      rw [List.count_append, List.count_cons_self, List.count_eq_zero.2 ha]; omega
    have ih := splitK_all c k r (by omega)
    rw [← ih]
    simp
theorem splitL_len (c : UInt8) : ∀ l, (splitL c l).length = l.count c + 1
  | [] => rfl
  | b :: l => by
    have ih := splitL_len c l
    unfold splitL
    by_cases hb : b = c
    · subst hb; rw [if_pos rfl, List.length_cons, ih, List.count_cons_self]
    · rw [if_neg hb, List.count_cons_of_ne hb]
      cases hs : splitL c l with
      | nil => exact absurd hs (splitL_ne c l)
      | cons h t => rw [hs] at ih; simpa using ih
def joinL (c : UInt8) : List (List UInt8) → List UInt8
  | [] => []
  | [a] => a
  | a :: b :: r => a ++ c :: joinL c (b :: r)
theorem joinL_split (c : UInt8) : ∀ l, joinL c (splitL c l) = l
  | [] => rfl
  | b :: l => by
    have ih := joinL_split c l
    unfold splitL
    cases hs : splitL c l with
    | nil => exact absurd hs (splitL_ne c l)
    | cons h t =>
      rw [hs] at ih
      split
      · rename_i hb
        subst hb
        show [] ++ b :: joinL b (h :: t) = _
        rw [ih]; rfl
      · cases t with
        | nil => show b :: h = _; rw [← ih]; rfl
        | cons h2 t => show b :: h ++ c :: joinL c (h2 :: t) = _; rw [← ih]; rfl
def itoaB (n : Int) : ByteArray := ⟨(Lib.itoa n).toArray⟩
def spB : ByteArray := ⟨#[32]⟩
def nlB : ByteArray := ⟨#[10]⟩
def sayTxt (x : Say) : ByteArray := x.Name ++ spB ++ itoaB x.At ++ spB ++ itoaB x.Value
def sayL (x : Say) : List UInt8 := x.Name.data.toList ++ 32 :: (Lib.itoa x.At ++ 32 :: Lib.itoa x.Value)
theorem sayTxt_data (x : Say) : (sayTxt x).data.toList = sayL x := by
  unfold sayTxt sayL itoaB spB
  simp [ByteArray.data_append]
theorem word_free {l : List UInt8} (h : word false l = true) : ∀ c, c ∈ l → 97 ≤ c.toNat ∧ c.toNat ≤ 122 := by
  unfold word at h
  rw [Bool.and_eq_true, List.all_eq_true] at h
  intro c hc
  have := h.1 c hc
  unfold wbyte at this
  simp at this
  omega
theorem word_no {l : List UInt8} (h : word false l = true) (c : UInt8) (hc : c.toNat < 97) : c ∉ l := fun hm => by have := word_free h c hm; omega
theorem itoa_no (n : Int) (c : UInt8) (hc : c.toNat < 45) : c ∉ Lib.itoa n := fun hm => by have := itoa_mem n c hm; omega
theorem sayOk_word {x : Say} (h : sayOk x = true) : word false x.Name.data.toList = true := by
  unfold sayOk at h
  rw [Bool.and_eq_true] at h
  exact h.1
theorem sayOk_bounds {x : Say} (h : sayOk x = true) : 0 ≤ x.At ∧ x.At ≤ 1000000000 ∧ -1000000000 ≤ x.Value ∧ x.Value ≤ 1000000000 := by
  unfold sayOk sampleOk isIn at h
  simp at h
  omega
theorem sayOk_name {x : Say} (h : sayOk x = true) : x.Name.size ≤ 8 := by
  have := (word_len (sayOk_word h)).2
  rwa [Array.length_toList] at this
theorem sayL_split {x : Say} (h : sayOk x = true) : splitL 32 (sayL x) = [x.Name.data.toList, Lib.itoa x.At, Lib.itoa x.Value] := by
  unfold sayL
  rw [splitL_cut (word_no (sayOk_word h) 32 (by decide)), splitL_cut (itoa_no _ 32 (by decide)), splitL_none (itoa_no _ 32 (by decide))]
theorem sba_ext {a b : ByteArray} (h : a.data.toList = b.data.toList) : a = b := by cases a; cases b; congr 1; exact Array.toList_inj.1 h
theorem sayL_inj {x y : Say} (hx : sayOk x = true) (hy : sayOk y = true) (h : sayL x = sayL y) : x = y := by
  have h1 := sayL_split hx
  rw [h, sayL_split hy] at h1
  simp only [List.cons.injEq, and_true] at h1
  obtain ⟨e1, e2, e3⟩ := h1
  cases x; cases y
  simp only [Say.mk.injEq]
  exact ⟨sba_ext e1.symm, (itoa_inj e2).symm, (itoa_inj e3).symm⟩
def readS (s : ByteArray) : Option Say :=
  match splitL 32 s.data.toList with
  | [a, b, c] => match Lib.atoi b, Lib.atoi c with
    | some n, some m => if sayOk ⟨⟨a.toArray⟩, n, m⟩ = true ∧ sayTxt ⟨⟨a.toArray⟩, n, m⟩ = s then some ⟨⟨a.toArray⟩, n, m⟩ else none
    | _, _ => none
  | _ => none
theorem readS_of {x : Say} (h : sayOk x = true) : readS (sayTxt x) = some x := by
  unfold readS
  rw [sayTxt_data, sayL_split h]
  dsimp only
  rw [atoi_itoa, atoi_itoa]
  dsimp only
  have e : (⟨x.Name.data.toList.toArray⟩ : ByteArray) = x.Name := sba_ext (by simp)
  rw [e]
  exact if_pos ⟨h, rfl⟩
theorem readS_is {s : ByteArray} {x : Say} (h : readS s = some x) : sayOk x = true ∧ sayTxt x = s := by
  unfold readS at h
  split at h
  · split at h
    · split at h
      · rename_i hc
        injection h with h
        subst h
        exact hc
      · cases h
    · cases h
  · cases h
theorem readS_iff {s : ByteArray} {x : Say} : readS s = some x ↔ sayOk x = true ∧ sayTxt x = s :=
  ⟨readS_is, fun ⟨h1, h2⟩ => by rw [← h2]; exact readS_of h1⟩
theorem readS_words {s : ByteArray} (h : (splitL 32 s.data.toList).length ≠ 3) : readS s = none := by
  unfold readS
  split
  · rename_i e; rw [e] at h; exact absurd rfl h
  · rfl
theorem readS_three {s : ByteArray} {a b c : List UInt8} (h : splitL 32 s.data.toList = [a, b, c]) :
    readS s = match Lib.atoi b, Lib.atoi c with
    | some n, some m => if sayOk ⟨⟨a.toArray⟩, n, m⟩ = true ∧ sayTxt ⟨⟨a.toArray⟩, n, m⟩ = s then some ⟨⟨a.toArray⟩, n, m⟩ else none
    | _, _ => none := by
  unfold readS; rw [h]
theorem three_join {s : ByteArray} {a b c : List UInt8} (h : splitL 32 s.data.toList = [a, b, c]) : s.data.toList = a ++ 32 :: (b ++ 32 :: c) := by
  rw [← joinL_split 32 s.data.toList, h]; rfl
theorem three_size {s : ByteArray} {a b c : List UInt8} (h : splitL 32 s.data.toList = [a, b, c]) : a.length + b.length + c.length + 2 = s.size := by
  have := congrArg List.length (three_join h)
  have hs : s.data.toList.length = s.size := by rw [Array.length_toList]; rfl
  rw [hs] at this
  simp at this
  omega
def int13 (l : List UInt8) (n : Int) : Prop := -10000000000 < n ∧ n < 10000000000 ∧ Lib.itoa n = l
theorem readS_ints {s : ByteArray} {a b c : List UInt8} (h : splitL 32 s.data.toList = [a, b, c]) {n m : Int} (hn : int13 b n) (hm : int13 c m) (ok : sayOk ⟨⟨a.toArray⟩, n, m⟩ = true) : readS s = some ⟨⟨a.toArray⟩, n, m⟩ :=
  readS_iff.2 ⟨ok, sba_ext (by rw [sayTxt_data, three_join h]; unfold sayL; rw [hn.2.2, hm.2.2])⟩
theorem readS_not {s : ByteArray} {a b c : List UInt8} (h : splitL 32 s.data.toList = [a, b, c]) (hno : ∀ n m, int13 b n → int13 c m → sayOk ⟨⟨a.toArray⟩, n, m⟩ = true → False) : readS s = none := by
  cases hr : readS s with
  | none => rfl
  | some x =>
    obtain ⟨h1, h2⟩ := readS_is hr
    have h3 := sayL_split h1
    rw [← sayTxt_data, h2, h] at h3
    simp only [List.cons.injEq, and_true] at h3
    obtain ⟨e1, e2, e3⟩ := h3
    have hb := sayOk_bounds h1
    refine absurd (hno x.At x.Value ⟨by omega, by omega, e2.symm⟩ ⟨by omega, by omega, e3.symm⟩ ?_) id
    have e : (⟨a.toArray⟩ : ByteArray) = x.Name := sba_ext (by simpa using e1)
    rw [e]; exact h1
def readAll : List ByteArray → Option (List Say)
  | [] => some []
  | s :: l => match readS s, readAll l with
    | some x, some r => some (x :: r)
    | _, _ => none
theorem readAll_iff : ∀ {l : List ByteArray} {r : List Say}, readAll l = some r ↔ l = r.map sayTxt ∧ ∀ x, x ∈ r → sayOk x = true
  | [], r => by
    cases r with
    | nil => simp [readAll]
    | cons x r => simp [readAll]
  | s :: l, r => by
    unfold readAll
    constructor
    · intro h
      split at h
      · rename_i x r' h1 h2
        injection h with h
        subst h
        obtain ⟨a1, a2⟩ := readS_is h1
        obtain ⟨b1, b2⟩ := readAll_iff.1 h2
        exact ⟨by rw [List.map_cons, a2, ← b1], fun y hy => by
          rcases List.mem_cons.1 hy with rfl | hy
          · exact a1
          · exact b2 y hy⟩
      · cases h
    · rintro ⟨h1, h2⟩
      cases r with
      | nil => cases h1
      | cons x r =>
        rw [List.map_cons, List.cons.injEq] at h1
        rw [readS_iff.2 ⟨h2 x (List.mem_cons_self ..), h1.1.symm⟩, readAll_iff.2 ⟨h1.2, fun y hy => h2 y (List.mem_cons_of_mem _ hy)⟩]
def rowSays (r : Row) : List Say := r.Samples.map fun x => ⟨r.Name, x.At, x.Value⟩
def headSays (h : Head) : List Say := h.Rows.flatMap rowSays
def lineL (x : Say) : List UInt8 := sayL x ++ [10]
def headL (h : Head) : List UInt8 := Lib.itoa h.Offset ++ 10 :: (headSays h).flatMap lineL
def headTxt (h : Head) : ByteArray := ⟨(headL h).toArray⟩
structure HeadOk (h : Head) : Prop where
  srt : RSort h.Rows
  row : ∀ r, r ∈ h.Rows → word false r.Name.data.toList = true ∧ r.Samples ≠ [] ∧ samplesOk r.Samples = true
  len : h.Rows.length ≤ 8
  off : 0 ≤ h.Offset ∧ h.Offset ≤ 1000
theorem samplesOk_len {l : List Sample} (h : samplesOk l = true) : l.length ≤ 40 := by
  unfold samplesOk at h
  rw [Bool.and_eq_true] at h
  have := of_decide_eq_true h.2
  omega
theorem samplesOk_mem {l : List Sample} (h : samplesOk l = true) {x : Sample} (hx : x ∈ l) : sampleOk x = true := by
  obtain ⟨k, hk⟩ := List.getElem?_of_mem hx
  cases hs : sampleOk x with
  | true => rfl
  | false =>
    rw [samplesOk_bad (List.getElem?_eq_some_iff.1 hk).1 (good_bad hk hs)] at h
    cases h
theorem HeadOk.hw {h : Head} (k : HeadOk h) : HW h := ⟨k.srt, fun r hr => ⟨(k.row r hr).2.1, samplesOk_len (k.row r hr).2.2⟩, k.len⟩
theorem HeadOk.says {h : Head} (k : HeadOk h) : ∀ x, x ∈ headSays h → sayOk x = true := by
  intro x hx
  obtain ⟨r, hr, hx⟩ := List.mem_flatMap.1 hx
  obtain ⟨y, hy, rfl⟩ := List.mem_map.1 hx
  unfold sayOk
  rw [(k.row r hr).1]
  exact samplesOk_mem (k.row r hr).2.2 hy
theorem sayL_free {x : Say} (h : sayOk x = true) : (10 : UInt8) ∉ sayL x := by
  unfold sayL
  intro hm
  rcases List.mem_append.1 hm with hm | hm
  · exact word_no (sayOk_word h) 10 (by decide) hm
  · rcases List.mem_cons.1 hm with hm | hm
    · cases hm
    · rcases List.mem_append.1 hm with hm | hm
      · exact itoa_no _ 10 (by decide) hm
      · rcases List.mem_cons.1 hm with hm | hm
        · cases hm
        · exact itoa_no _ 10 (by decide) hm
theorem lines_inj : ∀ {a b : List Say}, (∀ x, x ∈ a → sayOk x = true) → (∀ x, x ∈ b → sayOk x = true) → a.flatMap lineL = b.flatMap lineL → a = b
  | [], [], _, _, _ => rfl
  | [], y :: b, _, _, h => by rw [List.flatMap_cons] at h; unfold lineL at h; simp at h
  | x :: a, [], _, _, h => by rw [List.flatMap_cons] at h; unfold lineL at h; simp at h
  | x :: a, y :: b, ha, hb, h => by
    rw [List.flatMap_cons, List.flatMap_cons] at h
    unfold lineL at h
    rw [List.append_assoc, List.append_assoc, List.singleton_append, List.singleton_append] at h
    have hx := ha x (List.mem_cons_self ..)
    have hy := hb y (List.mem_cons_self ..)
    have h1 := splitL_cut (r := a.flatMap lineL) (sayL_free hx)
    have h2 := splitL_cut (r := b.flatMap lineL) (sayL_free hy)
    unfold lineL at h1 h2
    rw [h, h2, List.cons.injEq] at h1
    have e := sayL_inj hx hy h1.1.symm
    subst e
    rw [lines_inj (fun z hz => ha z (List.mem_cons_of_mem _ hz)) (fun z hz => hb z (List.mem_cons_of_mem _ hz)) (by
      have := List.append_cancel_left h
      rw [List.cons.injEq] at this
      exact this.2)]
theorem rows_inj : ∀ {a b : List Row}, RSort a → RSort b → (∀ r, r ∈ a → r.Samples ≠ []) → (∀ r, r ∈ b → r.Samples ≠ []) → a.flatMap rowSays = b.flatMap rowSays → a = b
  | [], [], _, _, _, _, _ => rfl
  | [], y :: b, _, _, _, hb, h => by
    have := hb y (List.mem_cons_self ..)
    rw [List.flatMap_cons] at h
    cases hs : y.Samples with
    | nil => exact absurd hs this
    | cons s t => unfold rowSays at h; rw [hs] at h; simp at h
  | x :: a, [], _, _, ha, _, h => by
    have := ha x (List.mem_cons_self ..)
    rw [List.flatMap_cons] at h
    cases hs : x.Samples with
    | nil => exact absurd hs this
    | cons s t => unfold rowSays at h; rw [hs] at h; simp at h
  | x :: a, y :: b, sa, sb, ha, hb, h => by
    rw [List.flatMap_cons, List.flatMap_cons] at h
    have hxn := ha x (List.mem_cons_self ..)
    have hyn := hb y (List.mem_cons_self ..)
    have hname : x.Name = y.Name := by
      cases hs : x.Samples with
      | nil => exact absurd hs hxn
      | cons s t =>
        cases hs2 : y.Samples with
        | nil => exact absurd hs2 hyn
        | cons s2 t2 =>
          unfold rowSays at h
          rw [hs, hs2] at h
          simp only [List.map_cons, List.cons_append, List.cons.injEq, Say.mk.injEq] at h
          exact h.1.1
    have later : ∀ {z : Row} {l : List Row}, RSort (z :: l) → ∀ s, s ∈ l.flatMap rowSays → s.Name ≠ z.Name := by
      intro z l hl s hs he
      obtain ⟨r, hr, hs⟩ := List.mem_flatMap.1 hs
      obtain ⟨q, hq, rfl⟩ := List.mem_map.1 hs
      obtain ⟨i, hi⟩ := List.getElem?_of_mem hr
      have := hl 0 (i + 1) z r (by omega) rfl (by simpa using hi)
      rw [show rnm z = z.Name from rfl, show rnm r = r.Name from rfl, ← show r.Name = z.Name from he, rless_irrefl] at this
      cases this
    have take : ∀ (z : Row) (l : List Row), RSort (z :: l) → (rowSays z ++ l.flatMap rowSays).takeWhile (fun s => decide (s.Name = z.Name)) = rowSays z ∧ (rowSays z ++ l.flatMap rowSays).dropWhile (fun s => decide (s.Name = z.Name)) = l.flatMap rowSays := by
      intro z l hl
      have h1 : ∀ s, s ∈ rowSays z → decide (s.Name = z.Name) = true := fun s hs => by
        obtain ⟨q, hq, rfl⟩ := List.mem_map.1 hs
        simp
      have h2 := later hl
      rw [List.takeWhile_append_of_pos h1, List.dropWhile_append_of_pos h1]
      cases hc : l.flatMap rowSays with
      | nil => simp
      | cons s t =>
        have := h2 s (by rw [hc]; exact List.mem_cons_self ..)
        rw [List.takeWhile_cons_of_neg (by simpa using this), List.dropWhile_cons_of_neg (by simpa using this)]
        simp
    have hx := take x a sa
    have hy := take y b sb
    rw [h, hname] at hx
    have e1 := hx.1.symm.trans hy.1
    have e2 := hx.2.symm.trans hy.2
    have ea := rows_inj sa.tail sb.tail (fun r hr => ha r (List.mem_cons_of_mem _ hr)) (fun r hr => hb r (List.mem_cons_of_mem _ hr)) e2
    have es : x.Samples = y.Samples := by
      have := congrArg (List.map fun (s : Say) => (⟨s.At, s.Value⟩ : Sample)) e1
      unfold rowSays at this
      simpa [Function.comp_def] using this
    cases x; cases y
    simp only at hname es
    subst hname; subst es; subst ea
    rfl
theorem headTxt_inj {a b : Head} (ha : HeadOk a) (hb : HeadOk b) (h : headTxt a = headTxt b) : a = b := by
  have h1 : headL a = headL b := by
    have := congrArg (fun s : ByteArray => s.data.toList) h
    simpa [headTxt] using this
  unfold headL at h1
  have ca := splitL_cut (r := (headSays a).flatMap lineL) (itoa_no a.Offset 10 (by decide))
  have cb := splitL_cut (r := (headSays b).flatMap lineL) (itoa_no b.Offset 10 (by decide))
  rw [h1, cb, List.cons.injEq] at ca
  have e1 := itoa_inj ca.1
  rw [e1] at h1
  have h2 := List.append_cancel_left h1
  rw [List.cons.injEq] at h2
  have e2 := rows_inj ha.srt hb.srt (fun r hr => (ha.row r hr).2.1) (fun r hr => (hb.row r hr).2.1) (lines_inj ha.says hb.says h2.2)
  cases a; cases b
  simp only at e1 e2
  rw [e1, e2]
theorem HeadOk.zero : HeadOk ⟨[], 0⟩ := ⟨fun i j x y _ h => by simp at h, fun r h => by simp at h, Nat.zero_le _, by decide⟩
end Pl
end Go.Proofs.YtbhmdnjammnlnaaGreatDoor

namespace Go.Proofs.YtbhmdnjammnlnaaGreatDoor
open Go.RowKit
structure Tabs (w : World) : Prop where
  pow : Lib.TabIs Tryz.prog w "internal/strconv.uint64pow10" .u64 Lib.pow10Tab
  syn : ∃ tp p, w.var? Tryz.prog "strconv.ErrSyntax" = some #[.iface tp p]
  rng : ∃ tp p, w.var? Tryz.prog "strconv.ErrRange" = some #[.iface tp p]
  mx : ∃ m : Int, w.cell? ⟨0, 0, none⟩ = some (.int .i64 m)
def Tab (B : Nat) (w : World) : Prop := B ≤ w.heap.size ∧ ∀ w', Below B w w' → Tabs w'
theorem Tab.here {B : Nat} {w : World} (h : Tab B w) : Tabs w := h.2 w (Below.refl _ _)
theorem below_le {B C : Nat} {w w' : World} (h : Below C w w') (hb : B ≤ C) : Below B w w' := ⟨h.os, h.tape, h.output, h.size, fun k hk => h.block k (by omega)⟩
theorem Tab.on {B : Nat} {w w' : World} (h : Tab B w) (hb : Below w.heap.size w w') : Tab B w' :=
  ⟨Nat.le_trans h.1 hb.size, fun w2 h2 => h.2 w2 ((below_le hb h.1).trans h2)⟩
theorem var_below {w w' : World} {name : String} {cs : Array Value} (h : w.var? Tryz.prog name = some cs) (hb : Below w.heap.size w w') : w'.var? Tryz.prog name = some cs := by
  unfold World.var? at *
  cases hg : Program.globalNamed Tryz.prog name with
  | none => simp [hg] at h
  | some g =>
    simp only [hg, Option.bind_some] at h ⊢
    have hlt : g < w.heap.size := by
      rcases Nat.lt_or_ge g w.heap.size with h' | h'
      · exact h'
      · rw [Array.getElem?_eq_none h'] at h; simp at h
    rw [hb.block g hlt]
    exact h
theorem Tabs.below {w w' : World} (h : Tabs w) (hb : Below w.heap.size w w') : Tabs w' := by
  obtain ⟨t1, p1, h1⟩ := h.syn
  obtain ⟨t2, p2, h2⟩ := h.rng
  obtain ⟨m, hm⟩ := h.mx
  exact ⟨var_below h.pow hb, ⟨t1, p1, var_below h1 hb⟩, ⟨t2, p2, var_below h2 hb⟩, ⟨m, below_some hb hm⟩⟩
theorem Tab.of {w : World} (h : Tabs w) : Tab w.heap.size w := ⟨Nat.le_refl _, fun _ hb => h.below hb⟩
theorem below_grow (w : World) (k : Nat) (os : Array Obj) : Below w.heap.size w (Sort.grow (w.drewN k) os) :=
  ⟨rfl, rfl, rfl, by rw [Sort.size_grow]; exact Nat.le_add_right _ _, fun j hj => Sort.heap_grow_old (w.drewN k) os hj⟩
theorem itoa_c (n : Int) (h0 : -9223372036854775808 ≤ n) (h1 : n ≤ 9223372036854775807) (B : Nat) (w : World) (ht : Tab B w) :
    Calls Tryz.prog 154 #[.int .i64 n] w fun e w' => e = .returned (.string (Pl.itoaB n)) ∧ Below w.heap.size w w' :=
  (Any.strconv_Itoa lsItoa n h0 h1 w ht.here.pow).mono fun e w' ⟨he, k, os, hw⟩ => ⟨he, by rw [hw]; exact below_grow w k os⟩
def AtoiAns (s : ByteArray) (w : World) (e : Ending) (w' : World) : Prop :=
  ∃ n ev, e = .returned (.tuple #[.int .i64 n, ev]) ∧ Below w.heap.size w w' ∧ Mm.I64 n ∧ ((Lib.atoiAll s.data.toList = .ok n ∧ ev = .nilIface) ∨ ((∀ v, Lib.atoiAll s.data.toList ≠ .ok v) ∧ ∃ tp p, ev = .iface tp p))
theorem atoi_c (s : ByteArray) (hs : s.size ≤ 281474976710656) (B : Nat) (w : World) (ht : Tab B w) :
    Calls Tryz.prog 180 #[.string s] w (AtoiAns s w) := by
  rcases h : Lib.atoiAll s.data.toList with v | _ | _
  · refine (Any.strconv_Atoi_ok lsAtoi s (by omega) v h w).mono ?_
    rintro e w' ⟨rfl, hw⟩
    refine ⟨v, _, rfl, ?_, ?_, .inl ⟨h, rfl⟩⟩
    · rcases hw with rfl | ⟨t, rfl⟩
      · exact Below.refl _ _
      · exact Lib.bytesWorld_below _ _ _
    · have := Lib.atoiAll_bounds h; unfold Mm.I64; omega
  · obtain ⟨tp, p, hv⟩ := ht.here.syn
    refine (Any.strconv_Atoi_syntax_var lsAtoi s hs h tp p w hv).mono ?_
    rintro e w' ⟨N, rfl, -, -, hb⟩
    exact ⟨0, _, rfl, hb, by unfold Mm.I64; omega, .inr ⟨fun v h2 => (by rw [h] at h2; cases h2), _, _, rfl⟩⟩
  · obtain ⟨tp, p, hv⟩ := ht.here.rng
    refine (Any.strconv_Atoi_range_var lsAtoi s hs h tp p w hv).mono ?_
    rintro e w' ⟨N, rfl, -, -, hb⟩
    exact ⟨_, _, rfl, hb, (by unfold Lib.atoiSat Mm.I64; split <;> omega), .inr ⟨fun v h2 => (by rw [h] at h2; cases h2), _, _, rfl⟩⟩
namespace Pl
def splitS (c : UInt8) (s : ByteArray) : List ByteArray := (splitL c s.data.toList).map fun l => ⟨l.toArray⟩
theorem splitB_S (c : UInt8) (s : ByteArray) : Lib.splitB ⟨#[c]⟩ 0 (Lib.countB s ⟨#[c]⟩) s = splitS c s := by
  have h1 := Lib.splitB_data ⟨#[c]⟩ 0 (Lib.countB s ⟨#[c]⟩) s
  have h2 : Lib.countB s ⟨#[c]⟩ = s.data.toList.count c := Lib.count_one c s.data.toList
  rw [h2] at h1 ⊢
  have h3 := splitK_all c (s.data.toList.count c) s.data.toList rfl
  unfold splitS
  rw [← h3, ← h1, List.map_map]
  conv => lhs; rw [← List.map_id (Lib.splitB _ _ _ _)]
  exact List.map_congr_left fun x _ => sba_ext (by simp)
theorem splitS_len (c : UInt8) (s : ByteArray) : (splitS c s).length = Lib.countB s ⟨#[c]⟩ + 1 := by
  unfold splitS
  rw [List.length_map, splitL_len, ← Lib.count_one]
end Pl
theorem split_c (s : ByteArray) (c : UInt8) (hs : s.size < 4294967281) (B : Nat) (w : World) (ht : Tab B w) :
    Calls Tryz.prog 179 #[.string s, .string ⟨#[c]⟩] w fun e w' => e = .returned (.slice (some ⟨w.heap.size, 0, none⟩) (Pl.splitS c s).length (Pl.splitS c s).length) ∧ w' = w.alloc (.cells ((Pl.splitS c s).map Value.string).toArray 9) := by
  obtain ⟨m, hm⟩ := ht.here.mx
  refine (Any.strings_Split lsSplit (by kernel_rfl) s ⟨#[c]⟩ m w hs hm (Nat.le_refl 1)).mono ?_
  rintro e w' ⟨rfl, rfl⟩
  rw [Pl.splitS_len, Pl.splitB_S]
  exact ⟨rfl, rfl⟩
end Go.Proofs.YtbhmdnjammnlnaaGreatDoor

namespace Go.Proofs.YtbhmdnjammnlnaaGreatDoor
open Go.RowKit
section
variable {P : Program} {ops : Array Oper} {md : Region.Mode} {C : World → Prop}
def headQ (P : Program) (md : Region.Mode) (ops : Array Oper) (C : World → Prop) (n : Nat) (L : Array Bool → Act → Prop) : Nat → Array Bool → Act → Prop
  | 0, listed, a => L listed a
  | f + 1, listed, a => Region.ready md ops listed ≠ [] ∧ ∀ i ∈ Region.ready md ops listed, i < n ∧ qOp P ops C i (headQ P md ops C n L f (listed.setIfInBounds i true)) a
theorem headQ_any {n g : Nat} {L : Array Bool → Act → Prop} {Q : Exit → Act → World → Prop} (hL : ∀ listed a w, C w → L listed a → wpAny P md ops Q g listed a w) :
    ∀ (f : Nat) (listed : Array Bool) (a : Act) (w : World), C w → headQ P md ops C n L f listed a → wpAny P md ops Q (f + g) listed a w
  | 0, listed, a, w, hw, h => by rw [Nat.zero_add]; exact hL _ _ _ hw h
  | f + 1, listed, a, w, hw, h => by
    rw [show f + 1 + g = (f + g) + 1 by omega]
    exact ⟨fun h0 => absurd h0 h.1, fun i hi => wpOp_of_qOp hw (fun a' w' hw' h' => headQ_any hL f _ a' w' hw' h') (h.2 i hi).2⟩
theorem headQ_first {n i : Nat} {oi : Oper} {v : Value} {L : Array Bool → Act → Prop} (hi : ops[i]? = some oi) (hsel : ∀ (j : Nat) (o : Oper) cs b, ops[j]? = some o → o.op ≠ .select cs b)
    (hs : Region.sinkB md ops n = true) (hc : Region.chainB md ops n = true) (hn : n < ops.size) (hin : i < n) (hdone : ∀ listed a, L listed a → ∀ j ∈ Region.ready md ops listed, n ≤ j) :
    ∀ (f : Nat) (listed : Array Bool) (a : Act), HeadInv md ops n listed →
      (∀ j oj, ops[j]? = some oj → j ≠ i → listed.getD j true = false → (∀ e ∈ oj.after, Region.binds md e = true → e.on ≠ i) → oi.apart ops oj = true) →
      i ∈ Region.ready md ops listed → YieldsIn P ops C oi v a → headQ P md ops C n L f (listed.setIfInBounds i true) (a.put oi.dst v) → headQ P md ops C n L (f + 1) listed a := by
  intro f
  induction f with
  | zero =>
    intro listed a inv _ hr hy H
    have hun := (mem_ready.1 hr).1
    refine ⟨List.ne_nil_of_mem hr, fun j hj => ?_⟩
    have hjn : j < n := Nat.lt_of_not_le fun h => tail_waits hs hc hn inv _ i rfl hin hun j h hj
    refine ⟨hjn, ?_⟩
    by_cases hji : j = i
    · subst hji; exact hy.qOp hi H
    · exact absurd (hdone _ _ H j (ready_mono hj hji)) (by omega)
  | succ f ih =>
    intro listed a inv hfree hr hy H
    have hun := (mem_ready.1 hr).1
    refine ⟨List.ne_nil_of_mem hr, fun j hj => ?_⟩
    have hjn : j < n := Nat.lt_of_not_le fun h => tail_waits hs hc hn inv _ i rfl hin hun j h hj
    refine ⟨hjn, ?_⟩
    by_cases hji : j = i
    · subst hji; exact hy.qOp hi H
    · obtain ⟨hjun, oj, hoj, hall⟩ := mem_ready.1 hj
      have hnot : ∀ e ∈ oj.after, Region.binds md e = true → e.on ≠ i := fun e he hb heq => by
        have h1 := hall e he hb
        rw [heq, getD_both hun] at h1
        cases h1
      have h2 := qOp_put hoj (hfree j oj hoj hji hjun hnot) (fun cs b => hsel i oi cs b hi) (fun cs b => hsel j oj cs b hoj) hy (H.2 j (ready_mono hj hji)).2
      refine qOp_mono (fun a' h3 => ih (listed.setIfInBounds j true) a' (inv.set hj hjn) (fun k ok hk hki hku hno => hfree k ok hk hki ?_ hno) (ready_mono hr (Ne.symm hji)) h3.1 (by rw [Array.setIfInBounds_comm _ _ hji]; exact h3.2)) h2
      by_cases hjk : j = k
      · subst hjk; exact hjun
      · rwa [getD_set_ne true hjk] at hku
theorem headQ_lex {n g : Nat} {Lq : Act → Prop} (hsel : Region.noSelect ops = true) (hs : Region.sinkB md ops n = true) (hc : Region.chainB md ops n = true) (hn : n < ops.size) :
    ∀ (l : List Oper) (k : Nat) (listed : Array Bool) (a : Act), (∀ j, j < l.length → l[j]? = ops[k + j]?) → k + l.length = n → HeadInv md ops n listed →
    Region.lexHead md ops g l.length k listed = true → wpQuiet P ops C Lq l a → headQ P md ops C n (fun listed' a' => Region.seqB md ops g n listed' = true ∧ Lq a') l.length listed a
  | [], k, listed, a, _, hk, _, hB, h => by
    have : k = n := by simpa using hk
    subst this
    exact ⟨by simpa [Region.lexHead] using hB, h⟩
  | o :: l, k, listed, a, hl, hk, inv, hB, h => by
    have h0 : ops[k]? = some o := by simpa using (hl 0 (by simp)).symm
    simp only [List.length_cons, Region.lexHead, Bool.and_eq_true] at hB
    obtain ⟨⟨hr, hf⟩, hB'⟩ := hB
    simp only [List.length_cons] at hk
    have hr' : k ∈ Region.ready md ops listed := by simpa using hr
    obtain ⟨v, hy, hK⟩ := yieldsIn_of_qOp (K := wpQuiet P ops C Lq l) h0 (by unfold qOp; simp only [h0]; exact h)
    exact headQ_first h0 (Region.noSelect_spec hsel) hs hc hn (by omega) (fun listed' a' hL => seqB_ready hL.1) l.length listed a inv (Region.free_spec h0 hf) hr' hy
      (headQ_lex hsel hs hc hn l (k + 1) _ _ (fun j hj => by have := hl (j + 1) (by simp; omega); simpa [Nat.add_assoc, Nat.add_comm 1 j] using this) (by omega) (inv.set hr' (by omega)) hB' hK)
end
theorem wpQuiet_mono' {P : Program} {ops : Array Oper} {C : World → Prop} {Q Q' : Act → Prop} (hq : ∀ a, Q a → Q' a) : ∀ (l : List Oper) (a : Act), wpQuiet P ops C Q l a → wpQuiet P ops C Q' l a
  | [], a, h => hq a h
  | o :: rest, a, h => by
    unfold wpQuiet at h ⊢
    split
    · rename_i hw
      rw [if_pos hw] at h
      exact Oper.quiet_mono (fun a h => wpQuiet_mono' hq rest a h) h
    · rename_i hw
      rw [if_neg hw] at h
      exact wpQuiet_mono' hq rest _ h
theorem wp_region_und_tail {P : Program} {id : Nat} {Q : Exit → Act → World → Prop} {a : Act} {w : World} {l : List Oper} (n : Nat) (hm : P.follows .mixedOrders = true) (hB : Region.lexTailB .any l.toArray n = true)
    (h : wpQuiet P l.toArray (fun w' => ∃ x : Und w, w' = und w x) (fun a' => ∀ X, Below w.heap.size w X → wpList P l.toArray Q (l.drop n) a' X) (l.take n) a) : (Code.region id l.toArray true).wp P Q a w := by
  simp only [Region.lexTailB, Bool.and_eq_true, decide_eq_true_eq] at hB
  obtain ⟨⟨⟨⟨hsel, hn⟩, hs⟩, hc⟩, hlex⟩ := hB
  have hn' : n < l.length := by simpa using hn
  have htl : (l.take n).length = n := by simp; omega
  have hdl : (l.drop n).length = l.toArray.size - n := by simp
  have inv0 : HeadInv .any l.toArray n (Array.replicate l.toArray.size false) :=
    ⟨by simp, fun j oj _ hl => (by rw [getD_replicate_false] at hl; cases hl), fun t _ ht => getD_in (by simpa using ht) (getD_replicate_false _ _)⟩
  have H := headQ_lex (md := .any) (g := l.toArray.size - n) hsel hs hc hn (l.take n) 0 _ a (fun j hj => by
    have hj' : j < n := by rw [htl] at hj; exact hj
    simp [hj']) (by simpa using htl) inv0 (by rw [htl]; exact hlex) (wpQuiet_mono' (Q' := fun a' => ∀ w', (∃ x : Und w, w' = und w x) → wpList P l.toArray Q (l.drop n) a' w') (fun a' hq w' ⟨x, hx⟩ => by subst hx; exact hq _ x.h) _ _ h)
  refine wp_region_any hm ?_
  have := headQ_any (Q := Q) (C := fun w' => ∃ x : Und w, w' = und w x) (g := l.toArray.size - n) (fun listed a' w' hw' hL => by
    have := wpAny_of_seq (md := .any) (Q' := Q) (l.drop n) n listed a' w' (fun j => by simp [List.getElem?_drop]) (by rw [hdl]; exact hL.1) (hL.2 w' hw')
    rwa [hdl] at this) _ _ _ _ ⟨⟨w.drew, (Below.refl _ _).drew⟩, rfl⟩ H
  rw [htl, show n + (l.toArray.size - n) = l.toArray.size by omega] at this
  exact this
end Go.Proofs.YtbhmdnjammnlnaaGreatDoor

namespace Go.Proofs.YtbhmdnjammnlnaaGreatDoor
open Go.RowKit
namespace Mm
abbrev Sig := Nat → List Thing
abbrev Rel := List Value → List Thing → Value → List Thing → Prop
def sigUpd (takes : Nat → List Nat) (σ : Sig) (i : Nat) (ds : List Thing) : Sig := fun k => bif k == i then ds else bif (takes i).contains k then [] else σ k
section
variable {P : Program} {ops : Array Oper} {md : Region.Mode} {C : Sig → World → Prop} {D : World → Prop} {rel : Nat → Option Rel} {takes : Nat → List Nat}
def ups (P : Program) (C' : Value → World → Prop) : Result Next → Prop
  | .ok (.value u) w' => C' u w'
  | .ok .skip w' => C' undef w'
  | .ok (.enter f args) w' => Calls P f args w' (fun e w'' => ∃ v, e = .returned v ∧ C' v w'')
  | .ok (.row row args) w' => Rows P row args w' fun v w'' => C' v w''
  | _ => False
def valUpon (w : World) (v : Value) : Result Next → Prop
  | .ok (.value u) w' => w' = w ∧ u = v
  | .ok .skip w' => w' = w ∧ undef = v
  | _ => False
def GDet (P : Program) (D : World → Prop) (o : Oper) (a : Act) (v : Value) : Prop := ∀ w, D w → valUpon w v ((execOp a.eval o).run P w)
def GValid (P : Program) (C : Sig → World → Prop) (takes : Nat → List Nat) (i : Nat) (o : Oper) (a : Act) (σ : Sig) (r : Value → List Thing → Prop) : Prop :=
  ∀ σ' w, C σ' w → (∀ k ∈ takes i, σ' k = σ k) → ups P (fun v w' => ∃ ds, r v ds ∧ C (sigUpd takes σ' i ds) w') ((execOp a.eval o).run P w)
abbrev GRelAt (takes : Nat → List Nat) (r : Rel) (i : Nat) (o : Oper) (a : Act) (σ : Sig) : Value → List Thing → Prop := r (o.op.operands.toList.map a.eval) ((takes i).flatMap σ)
def GStatus (P : Program) (ops : Array Oper) (C : Sig → World → Prop) (D : World → Prop) (rel : Nat → Option Rel) (takes : Nat → List Nat) (i : Nat) (o : Oper) (a : Act) (σ : Sig) (O : Value → (Sig → Sig) → Prop) : Prop :=
  (Region.wanted o (yielded ops a.tmps) = false ∧ O = fun u f => u = undef ∧ f = id) ∨
  (Region.wanted o (yielded ops a.tmps) = true ∧ rel i = none ∧ ∃ v, GDet P D o a v ∧ O = fun u f => u = v ∧ f = id) ∨
  (Region.wanted o (yielded ops a.tmps) = true ∧ ∃ r, rel i = some r ∧ GValid P C takes i o a σ (GRelAt takes r i o a σ) ∧ (∃ v ds, GRelAt takes r i o a σ v ds) ∧ O = fun u f => ∃ ds, GRelAt takes r i o a σ u ds ∧ f = fun s => sigUpd takes s i ds)
def gOp (P : Program) (ops : Array Oper) (C : Sig → World → Prop) (D : World → Prop) (rel : Nat → Option Rel) (takes : Nat → List Nat) (i : Nat) (K : Act → Sig → Prop) (a : Act) (σ : Sig) : Prop :=
  match ops[i]? with
  | none => K a σ
  | some o => ∃ O, GStatus P ops C D rel takes i o a σ O ∧ ∀ v f, O v f → K (a.put o.dst v) (f σ)
theorem gOp_mono {i : Nat} {a : Act} {σ : Sig} {K K' : Act → Sig → Prop} (h : ∀ a s, K a s → K' a s) (hh : gOp P ops C D rel takes i K a σ) : gOp P ops C D rel takes i K' a σ := by
  unfold gOp at *
  split
  · exact h _ _ (by simpa [*] using hh)
  · rename_i o ho
    simp only [ho] at hh
    obtain ⟨O, h1, h2⟩ := hh
    exact ⟨O, h1, fun v f hO => h _ _ (h2 v f hO)⟩
theorem GDet.uniq {o : Oper} {a : Act} {v u : Value} {w : World} (hw : D w) (h : GDet P D o a v) (k : GDet P D o a u) : v = u := by
  have h1 := h w hw
  have h2 := k w hw
  generalize (execOp a.eval o).run P w = r at *
  cases r with
  | ok n w' => cases n <;> simp only [valUpon] at h1 h2 <;> first | exact h1.2.symm.trans h2.2 | exact h1.elim
  | halt x w' => exact h1.elim
theorem GStatus.func {i : Nat} {o : Oper} {a : Act} {σ : Sig} {O O' : Value → (Sig → Sig) → Prop} (hD : ∃ w, D w) (h : GStatus P ops C D rel takes i o a σ O) (k : GStatus P ops C D rel takes i o a σ O') : O = O' := by
  obtain ⟨w, hw⟩ := hD
  rcases h with ⟨h1, h2⟩ | ⟨h1, hr, v, h2, h3⟩ | ⟨h1, r, hr, h2, h3, h4⟩ <;> rcases k with ⟨k1, k2⟩ | ⟨k1, kr, u, k2, k3⟩ | ⟨k1, s, kr, k2, k3, k4⟩
  · rw [h2, k2]
  · rw [h1] at k1; cases k1
  · rw [h1] at k1; cases k1
  · rw [h1] at k1; cases k1
  · rw [h3, k3, GDet.uniq hw h2 k2]
  · rw [hr] at kr; cases kr
  · rw [h1] at k1; cases k1
  · rw [hr] at kr; cases kr
  · rw [hr] at kr; injection kr with kr; subst kr; rw [h4, k4]
theorem GStatus.ex {i : Nat} {o : Oper} {a : Act} {σ : Sig} {O : Value → (Sig → Sig) → Prop} (h : GStatus P ops C D rel takes i o a σ O) : ∃ v f, O v f := by
  rcases h with ⟨_, h2⟩ | ⟨_, _, v, _, h3⟩ | ⟨_, r, _, _, ⟨v, ds, h3⟩, h4⟩
  · exact ⟨undef, id, by rw [h2]; exact ⟨rfl, rfl⟩⟩
  · exact ⟨v, id, by rw [h3]; exact ⟨rfl, rfl⟩⟩
  · exact ⟨v, _, by rw [h4]; exact ⟨ds, h3, rfl⟩⟩
theorem GStatus.turn {i : Nat} {o : Oper} {a : Act} {σ : Sig} {O : Value → (Sig → Sig) → Prop} (h : GStatus P ops C D rel takes i o a σ O) {v : Value} {f : Sig → Sig} (hO : O v f) : f = id ∨ ∃ ds, f = fun s => sigUpd takes s i ds := by
  rcases h with ⟨_, h2⟩ | ⟨_, _, _, _, h3⟩ | ⟨_, r, _, _, _, h4⟩
  · rw [h2] at hO; exact .inl hO.2
  · rw [h3] at hO; exact .inl hO.2
  · rw [h4] at hO; obtain ⟨ds, _, h⟩ := hO; exact .inr ⟨ds, h⟩
def Indep (takes : Nat → List Nat) (i j : Nat) : Prop := i ≠ j ∧ i ∉ takes j ∧ j ∉ takes i ∧ ∀ k, k ∈ takes i → k ∉ takes j
theorem Indep.symm {i j : Nat} (h : Indep takes i j) : Indep takes j i := ⟨Ne.symm h.1, h.2.2.1, h.2.1, fun k hk hi => h.2.2.2 k hi hk⟩
theorem sigUpd_far {σ : Sig} {i j : Nat} {ds : List Thing} (h : Indep takes i j) {k : Nat} (hk : k ∈ takes j) : sigUpd takes σ i ds k = σ k := by
  unfold sigUpd
  have h1 : (k == i) = false := by rw [beq_eq_false_iff_ne]; rintro rfl; exact h.2.1 hk
  have h2 : (takes i).contains k = false := by
    cases hc : (takes i).contains k
    · rfl
    · exact absurd hk (h.2.2.2 k (by simpa using hc))
  rw [h1, h2]; rfl
theorem sigUpd_comm {σ : Sig} {i j : Nat} {ds es : List Thing} (h : Indep takes i j) : sigUpd takes (sigUpd takes σ i ds) j es = sigUpd takes (sigUpd takes σ j es) i ds := by
  funext k
  unfold sigUpd
  by_cases hi : k = i
  · subst hi
    have h1 : (k == j) = false := by rw [beq_eq_false_iff_ne]; exact h.1
    have h2 : (takes j).contains k = false := by
      cases hc : (takes j).contains k
      · rfl
      · exact absurd (by simpa using hc) h.2.1
    rw [h1, h2]; simp
  · have hi' : (k == i) = false := by rw [beq_eq_false_iff_ne]; exact hi
    rw [hi']
    by_cases hj : k = j
    · subst hj
      have h2 : (takes i).contains k = false := by
        cases hc : (takes i).contains k
        · rfl
        · exact absurd (by simpa using hc) h.2.2.1
      rw [h2]; simp
    · have hj' : (k == j) = false := by rw [beq_eq_false_iff_ne]; exact hj
      rw [hj']
      cases (takes i).contains k <;> cases (takes j).contains k <;> rfl
theorem map_eval_put {o oj : Oper} {a : Act} {v : Value} (h : ∀ d, oj.dst = some d → d ∉ o.looksAt ops) : o.op.operands.toList.map (a.put oj.dst v).eval = o.op.operands.toList.map a.eval := by
  refine List.map_congr_left fun x hx => Act.eval_put fun d hd hxd => h d hd ?_
  subst hxd
  exact List.mem_append_left _ (List.mem_filterMap.2 ⟨.tmp d, hx, rfl⟩)
theorem GStatus.keep {i : Nat} {o oj : Oper} {a : Act} {σ σ' : Sig} {O : Value → (Sig → Sig) → Prop} (h : GStatus P ops C D rel takes i o a σ O) (hs : ∀ cs b, o.op ≠ .select cs b) (hl : ∀ d, oj.dst = some d → d ∉ o.looksAt ops) (u : Value)
    (hσ : ∀ k, k ∈ takes i → σ' k = σ k) : GStatus P ops C D rel takes i o (a.put oj.dst u) σ' O := by
  have e1 := execOp_put o hs a oj.dst u hl
  have e2 := wanted_put o a oj.dst u hl
  have e3 := map_eval_put (a := a) (v := u) hl
  have e4 : (takes i).flatMap σ' = (takes i).flatMap σ := by
    rw [List.flatMap_def, List.flatMap_def]; exact congrArg List.flatten (List.map_congr_left hσ)
  have e5 : ∀ r : Rel, GRelAt takes r i o (a.put oj.dst u) σ' = GRelAt takes r i o a σ := fun r => by unfold GRelAt; rw [e3, e4]
  rcases h with ⟨h1, h2⟩ | ⟨h1, hr, v, h2, h3⟩ | ⟨h1, r, hr, h2, h3, h4⟩
  · exact .inl ⟨by rw [e2]; exact h1, h2⟩
  · refine .inr (.inl ⟨by rw [e2]; exact h1, hr, v, ?_, h3⟩)
    unfold GDet at *
    rw [e1]; exact h2
  · refine .inr (.inr ⟨by rw [e2]; exact h1, r, hr, ?_, ?_, ?_⟩)
    · unfold GValid at *
      rw [e1, e5]
      exact fun s w hc hk => h2 s w hc (fun k hk' => (hk k hk').trans (hσ k hk'))
    · rw [e5]; exact h3
    · rw [e5]; exact h4
theorem gOp_put {i j : Nat} {oi oj : Oper} {O : Value → (Sig → Sig) → Prop} (hD : ∃ w, D w) (hj : ops[j]? = some oj) (hap : oi.apart ops oj = true) (hin : Indep takes i j)
    (hsi : ∀ cs b, oi.op ≠ .select cs b) (hsj : ∀ cs b, oj.op ≠ .select cs b) {K : Act → Sig → Prop} {a : Act} {σ : Sig}
    (hy : GStatus P ops C D rel takes i oi a σ O) (h : ∀ v f, O v f → gOp P ops C D rel takes j K (a.put oi.dst v) (f σ)) :
    gOp P ops C D rel takes j (fun a' s => GStatus P ops C D rel takes i oi a' s O ∧ ∀ v f, O v f → K (a'.put oi.dst v) (f s)) a σ := by
  obtain ⟨h1, h2, h3⟩ := Oper.apart_spec hap
  have back : ∀ v f, O v f → ∃ O', GStatus P ops C D rel takes j oj a σ O' ∧ ∀ u g, O' u g → K ((a.put oi.dst v).put oj.dst u) (g (f σ)) := fun v f hO => by
    have := h v f hO
    unfold gOp at this
    simp only [hj] at this
    obtain ⟨O', k1, k2⟩ := this
    refine ⟨O', ?_, k2⟩
    have e1 := execOp_put oj hsj a oi.dst v h1
    have e2 := wanted_put oj a oi.dst v h1
    have e3 := map_eval_put (a := a) (v := v) h1
    have hσ : ∀ k, k ∈ takes j → f σ k = σ k := fun k hk => by
      rcases hy.turn hO with rfl | ⟨ds, rfl⟩
      · rfl
      · exact sigUpd_far hin hk
    have e4 : (takes j).flatMap (f σ) = (takes j).flatMap σ := by
      rw [List.flatMap_def, List.flatMap_def]; exact congrArg List.flatten (List.map_congr_left hσ)
    have e5 : ∀ r : Rel, GRelAt takes r j oj (a.put oi.dst v) (f σ) = GRelAt takes r j oj a σ := fun r => by unfold GRelAt; rw [e3, e4]
    rcases k1 with ⟨q1, q2⟩ | ⟨q1, hr, x, q2, q3⟩ | ⟨q1, r, hr, q2, q3, q4⟩
    · exact .inl ⟨by rw [← e2]; exact q1, q2⟩
    · refine .inr (.inl ⟨by rw [← e2]; exact q1, hr, x, ?_, q3⟩)
      unfold GDet at *
      rw [← e1]; exact q2
    · refine .inr (.inr ⟨by rw [← e2]; exact q1, r, hr, ?_, ?_, ?_⟩)
      · unfold GValid at *
        rw [← e5, ← e1]
        exact fun s w hc hk => q2 s w hc (fun k hk' => (hk k hk').trans (hσ k hk').symm)
      · rw [← e5]; exact q3
      · rw [← e5]; exact q4
  obtain ⟨v0, f0, hO0⟩ := hy.ex
  obtain ⟨O', k1, _⟩ := back v0 f0 hO0
  unfold gOp
  simp only [hj]
  refine ⟨O', k1, fun u g hg => ⟨hy.keep hsi h3 u (fun k hk => ?_), fun v f hO => ?_⟩⟩
  · rcases k1.turn hg with rfl | ⟨ds, rfl⟩
    · rfl
    · exact sigUpd_far hin.symm hk
  · obtain ⟨O2, m1, m2⟩ := back v f hO
    rw [k1.func hD m1] at hg
    have := m2 u g hg
    rw [Act.put_comm a v u h2] at this
    have e : g (f σ) = f (g σ) := by
      rcases hy.turn hO with rfl | ⟨ds, rfl⟩
      · rfl
      · rcases m1.turn hg with rfl | ⟨es, rfl⟩
        · rfl
        · exact sigUpd_comm hin
    rw [e] at this
    exact this
theorem gOp_of {i : Nat} {oi : Oper} {a : Act} {σ : Sig} {O : Value → (Sig → Sig) → Prop} {K : Act → Sig → Prop} (hi : ops[i]? = some oi) (hy : GStatus P ops C D rel takes i oi a σ O) (h : ∀ v f, O v f → K (a.put oi.dst v) (f σ)) : gOp P ops C D rel takes i K a σ := by
  unfold gOp
  simp only [hi]
  exact ⟨O, hy, h⟩
theorem wpOp_of_gOp (hCD : ∀ σ w, C σ w → D w) {i : Nat} {a : Act} {σ : Sig} {K : Act → Sig → Prop} {K' : Act → World → Prop} {Q' : Exit → Act → World → Prop} {w : World} (hC : C σ w) (h : ∀ a s w', C s w' → K a s → K' a w') (hh : gOp P ops C D rel takes i K a σ) : wpOp P ops Q' i K' a w := by
  unfold gOp at hh
  unfold wpOp
  split
  · rename_i ho; simp only [ho] at hh; exact h _ _ _ hC hh
  · rename_i o ho
    simp only [ho] at hh
    obtain ⟨O, k1, k2⟩ := hh
    rcases k1 with ⟨h1, h2⟩ | ⟨h1, _, v, h2, h3⟩ | ⟨h1, r, _, h2, _, h4⟩
    · rw [h1]
      simp only [Bool.false_eq_true, if_false]
      exact h _ _ _ hC (k2 undef id (by rw [h2]; exact ⟨rfl, rfl⟩))
    · rw [h1]
      simp only [if_true]
      refine .inl ?_
      have h5 := h2 w (hCD _ _ hC)
      have h6 : K (a.put o.dst v) σ := k2 v id (by rw [h3]; exact ⟨rfl, rfl⟩)
      unfold Oper.wp
      generalize (execOp a.eval o).run P w = R at *
      cases R with
      | ok n w' =>
        cases n <;> simp only [valUpon] at h5 <;> simp only [Oper.upon]
        · obtain ⟨rfl, rfl⟩ := h5; exact h _ _ _ hC h6
        · obtain ⟨rfl, rfl⟩ := h5; exact h _ _ _ hC h6
      | halt x w' => exact h5.elim
    · rw [h1]
      simp only [if_true]
      refine .inl ?_
      have h5 := h2 σ w hC (fun _ _ => rfl)
      have h6 : ∀ v ds, GRelAt takes r i o a σ v ds → K (a.put o.dst v) (sigUpd takes σ i ds) := fun v ds hd => k2 v (fun s => sigUpd takes s i ds) (by rw [h4]; exact ⟨ds, hd, rfl⟩)
      unfold Oper.wp
      generalize (execOp a.eval o).run P w = R at *
      cases R with
      | ok n w' =>
        cases n <;> simp only [ups] at h5 <;> simp only [Oper.upon]
        · obtain ⟨ds, h7, h8⟩ := h5; exact h _ _ _ h8 (h6 _ _ h7)
        · obtain ⟨ds, h7, h8⟩ := h5; exact h _ _ _ h8 (h6 _ _ h7)
        · exact h5.mono fun e w'' ⟨v, he, ds, h7, h8⟩ => by subst he; exact h _ _ _ h8 (h6 _ _ h7)
        · exact Rows.mono h5 fun v w'' ⟨ds, h7, h8⟩ => h _ _ _ h8 (h6 _ _ h7)
      | halt x w' => exact h5.elim
def wpGive (P : Program) (ops : Array Oper) (C : Sig → World → Prop) (D : World → Prop) (rel : Nat → Option Rel) (takes : Nat → List Nat) (Q : Act → Sig → Prop) : Nat → List Oper → Act → Sig → Prop
  | _, [], a, σ => Q a σ
  | i, o :: rest, a, σ => ∃ O, GStatus P ops C D rel takes i o a σ O ∧ ∀ v f, O v f → wpGive P ops C D rel takes Q (i + 1) rest (a.put o.dst v) (f σ)
def headG (P : Program) (md : Region.Mode) (ops : Array Oper) (C : Sig → World → Prop) (D : World → Prop) (rel : Nat → Option Rel) (takes : Nat → List Nat) (n : Nat) (L : Array Bool → Act → Sig → Prop) : Nat → Array Bool → Act → Sig → Prop
  | 0, listed, a, σ => L listed a σ
  | f + 1, listed, a, σ => Region.ready md ops listed ≠ [] ∧ ∀ i ∈ Region.ready md ops listed, i < n ∧ gOp P ops C D rel takes i (headG P md ops C D rel takes n L f (listed.setIfInBounds i true)) a σ
theorem headG_any (hCD : ∀ σ w, C σ w → D w) {n g : Nat} {L : Array Bool → Act → Sig → Prop} {Q : Exit → Act → World → Prop} (hL : ∀ listed a s w, C s w → L listed a s → wpAny P md ops Q g listed a w) :
    ∀ (f : Nat) (listed : Array Bool) (a : Act) (s : Sig) (w : World), C s w → headG P md ops C D rel takes n L f listed a s → wpAny P md ops Q (f + g) listed a w
  | 0, listed, a, s, w, hw, h => by rw [Nat.zero_add]; exact hL _ _ _ _ hw h
  | f + 1, listed, a, s, w, hw, h => by
    rw [show f + 1 + g = (f + g) + 1 by omega]
    exact ⟨fun h0 => absurd h0 h.1, fun i hi => wpOp_of_gOp hCD hw (fun a' s' w' hw' h' => headG_any hCD hL f _ a' s' w' hw' h') (h.2 i hi).2⟩
theorem headG_first (hD : ∃ w, D w) {n i : Nat} {oi : Oper} {O : Value → (Sig → Sig) → Prop} {L : Array Bool → Act → Sig → Prop} (hi : ops[i]? = some oi) (hsel : ∀ (j : Nat) (o : Oper) cs b, ops[j]? = some o → o.op ≠ .select cs b)
    (hw : ∀ listed, HeadInv md ops n listed → listed.getD i true = false → ∀ j ∈ Region.ready md ops listed, j < n) (hin : i < n) (hdone : ∀ listed a s, L listed a s → ∀ j ∈ Region.ready md ops listed, n ≤ j) :
    ∀ (f : Nat) (listed : Array Bool) (a : Act) (σ : Sig), HeadInv md ops n listed →
      (∀ j oj, ops[j]? = some oj → j ≠ i → listed.getD j true = false → (∀ e ∈ oj.after, Region.binds md e = true → e.on ≠ i) → oi.apart ops oj = true ∧ Indep takes i j) →
      i ∈ Region.ready md ops listed → GStatus P ops C D rel takes i oi a σ O → (∀ v f', O v f' → headG P md ops C D rel takes n L f (listed.setIfInBounds i true) (a.put oi.dst v) (f' σ)) → headG P md ops C D rel takes n L (f + 1) listed a σ := by
  intro f
  induction f with
  | zero =>
    intro listed a σ inv _ hr hy H
    have hun := (mem_ready.1 hr).1
    obtain ⟨v0, f0, hO0⟩ := hy.ex
    refine ⟨List.ne_nil_of_mem hr, fun j hj => ?_⟩
    have hjn : j < n := hw _ inv hun j hj
    refine ⟨hjn, ?_⟩
    by_cases hji : j = i
    · subst hji; exact gOp_of hi hy H
    · exact absurd (hdone _ _ _ (H v0 f0 hO0) j (ready_mono hj hji)) (by omega)
  | succ f ih =>
    intro listed a σ inv hfree hr hy H
    have hun := (mem_ready.1 hr).1
    refine ⟨List.ne_nil_of_mem hr, fun j hj => ?_⟩
    have hjn : j < n := hw _ inv hun j hj
    refine ⟨hjn, ?_⟩
    by_cases hji : j = i
    · subst hji; exact gOp_of hi hy H
    · obtain ⟨hjun, oj, hoj, hall⟩ := mem_ready.1 hj
      have hnot : ∀ e ∈ oj.after, Region.binds md e = true → e.on ≠ i := fun e he hb heq => by
        have h1 := hall e he hb
        rw [heq, getD_both hun] at h1
        cases h1
      have hfj := hfree j oj hoj hji hjun hnot
      have h2 := gOp_put hD hoj hfj.1 hfj.2 (fun cs b => hsel i oi cs b hi) (fun cs b => hsel j oj cs b hoj) hy (fun v f' hO => ((H v f' hO).2 j (ready_mono hj hji)).2)
      refine gOp_mono (fun a' s' h3 => ih (listed.setIfInBounds j true) a' s' (inv.set hj hjn) (fun k ok hk hki hku hno => hfree k ok hk hki ?_ hno) (ready_mono hr (Ne.symm hji)) h3.1 (fun v f' hO => by rw [Array.setIfInBounds_comm _ _ hji]; exact h3.2 v f' hO)) h2
      by_cases hjk : j = k
      · subst hjk; exact hjun
      · rwa [getD_set_ne true hjk] at hku
def planB (takes : Nat → List Nat) (ops : Array Oper) (md : Region.Mode) : Bool :=
  (List.range ops.size).all fun k => (List.range ops.size).all fun j => Nat.ble j k || (match ops[j]? with | some oj => oj.after.any (fun e => Region.binds md e && e.on == k) | none => true) ||
    (!(takes j).contains k && !(takes k).contains j && (takes k).all fun x => !(takes j).contains x)
theorem planB_spec (h : planB takes ops md = true) {k j : Nat} {oj : Oper} (hj : ops[j]? = some oj) (hkj : k < j) (hno : ∀ e ∈ oj.after, Region.binds md e = true → e.on ≠ k) : Indep takes k j := by
  unfold planB at h
  simp only [List.all_eq_true, List.mem_range] at h
  have hjs := (Array.getElem?_eq_some_iff.1 hj).1
  have h1 := h k (by omega) j hjs
  simp only [hj, Bool.or_eq_true] at h1
  rcases h1 with (h1 | h1) | h1
  · have := Nat.le_of_ble_eq_true h1; omega
  · obtain ⟨x, hx, h2⟩ := Array.any_eq_true.1 h1
    simp only [Bool.and_eq_true, beq_iff_eq] at h2
    exact absurd h2.2 (hno _ (Array.getElem_mem hx) h2.1)
  · simp only [Bool.and_eq_true, Bool.not_eq_true', List.all_eq_true] at h1
    refine ⟨by omega, fun hk => ?_, fun hk => ?_, fun x hx hx' => ?_⟩
    · have := h1.1.1; simp [hk] at this
    · have := h1.1.2; simp [hk] at this
    · have := h1.2 x hx; simp [hx'] at this
theorem headG_lex (hD : ∃ w, D w) {n g : Nat} {Lq : Act → Sig → Prop} (hsel : Region.noSelect ops = true) (hw : ∀ i, i < n → ∀ listed, HeadInv md ops n listed → listed.getD i true = false → ∀ j ∈ Region.ready md ops listed, j < n)
    (hpl : planB takes ops md = true) :
    ∀ (l : List Oper) (k : Nat) (listed : Array Bool) (a : Act) (σ : Sig), (∀ j, j < l.length → l[j]? = ops[k + j]?) → k + l.length = n → HeadInv md ops n listed → (∀ j, j < k → listed.getD j true = true) →
    Region.lexHead md ops g l.length k listed = true → wpGive P ops C D rel takes Lq k l a σ → headG P md ops C D rel takes n (fun listed' a' s' => Region.seqB md ops g n listed' = true ∧ Lq a' s') l.length listed a σ
  | [], k, listed, a, σ, _, hk, _, _, hB, h => by
    have : k = n := by simpa using hk
    subst this
    exact ⟨by simpa [Region.lexHead] using hB, h⟩
  | o :: l, k, listed, a, σ, hl, hk, inv, hlo, hB, h => by
    have h0 : ops[k]? = some o := by simpa using (hl 0 (by simp)).symm
    simp only [List.length_cons, Region.lexHead, Bool.and_eq_true] at hB
    obtain ⟨⟨hr, hf⟩, hB'⟩ := hB
    simp only [List.length_cons] at hk
    have hr' : k ∈ Region.ready md ops listed := by simpa using hr
    obtain ⟨O, hy, hK⟩ := h
    refine headG_first hD h0 (Region.noSelect_spec hsel) (hw k (by omega)) (by omega) (fun listed' a' s' hL => seqB_ready hL.1) l.length listed a σ inv (fun j oj hj hjk hun hno => ⟨Region.free_spec h0 hf j oj hj hjk hun hno, planB_spec hpl hj ?_ hno⟩) hr' hy (fun v f hO =>
      headG_lex hD hsel hw hpl l (k + 1) _ _ _ (fun j hj => by have := hl (j + 1) (by simp; omega); simpa [Nat.add_assoc, Nat.add_comm 1 j] using this) (by omega) (inv.set hr' (by omega)) (fun j hj => ?_) hB' (hK v f hO))
    · rcases Nat.lt_or_ge k j with h | h
      · exact h
      · have := hlo j (by omega)
        rw [hun] at this; cases this
    · by_cases hjk : k = j
      · subst hjk
        have hs : k < listed.size := by rw [inv.size]; exact (Array.getElem?_eq_some_iff.1 h0).1
        simp [hs]
      · rw [getD_set_ne true hjk]; exact hlo j (by omega)
end
section
variable {P : Program} {F : List Nat} {rel : Nat → Option Rel} {takes : Nat → List Nat}
def sigAll (N : Nat) (σ : Sig) : List Thing := (List.range (N + 1)).flatMap σ
def GC (F : List Nat) (w : World) (N : Nat) (σ : Sig) (X : World) : Prop := SepF F w X (sigAll N σ)
theorem wp_region_give {id : Nat} {Q : Exit → Act → World → Prop} {a : Act} {w : World} {l : List Oper} (n : Nat) (rel : Nat → Option Rel) (takes : Nat → List Nat) {D : World → Prop} (σ : Sig) (hCD : ∀ X us, SepF F w X us → D X)
    (hm : P.follows .mixedOrders = true) (hB : Region.lexTailB .any l.toArray n = true) (hP : planB takes l.toArray .any = true) (hS : SepF F w w.drew (sigAll l.length σ))
    (h : wpGive P l.toArray (GC F w l.length) D rel takes (fun a' σ' => ∀ X, SepF F w X (sigAll l.length σ') → wpList P l.toArray Q (l.drop n) a' X) 0 (l.take n) a σ) : (Code.region id l.toArray true).wp P Q a w := by
  simp only [Region.lexTailB, Bool.and_eq_true, decide_eq_true_eq] at hB
  obtain ⟨⟨⟨⟨hsel, hn⟩, hs⟩, hc⟩, hlex⟩ := hB
  have hn' : n < l.length := by simpa using hn
  have htl : (l.take n).length = n := by simp; omega
  have hdl : (l.drop n).length = l.toArray.size - n := by simp
  have inv0 : HeadInv .any l.toArray n (Array.replicate l.toArray.size false) :=
    ⟨by simp, fun j oj _ hl => (by rw [getD_replicate_false] at hl; cases hl), fun t _ ht => getD_in (by simpa using ht) (getD_replicate_false _ _)⟩
  have hD : ∃ w, D w := ⟨_, hCD _ _ hS⟩
  have H := headG_lex (md := .any) (g := l.toArray.size - n) hD hsel (fun i hi listed inv hun j hj => Nat.lt_of_not_le fun h => tail_waits hs hc hn inv _ i rfl hi hun j h hj) hP (l.take n) 0 _ a σ (fun j hj => by
    have hj' : j < n := by rw [htl] at hj; exact hj
    simp [hj']) (by simpa using htl) inv0 (fun j hj => by omega) (by rw [htl]; exact hlex) h
  refine wp_region_any hm ?_
  have := headG_any (Q := Q) (C := GC F w l.length) (D := D) (g := l.toArray.size - n) (fun s X hX => hCD X _ hX) (fun listed a' s' w' hw' hL => by
    have := wpAny_of_seq (md := .any) (Q' := Q) (l.drop n) n listed a' w' (fun j => by simp [List.getElem?_drop]) (by rw [hdl]; exact hL.1) (hL.2 w' hw')
    rwa [hdl] at this) _ _ _ _ _ hS H
  rw [htl, show n + (l.toArray.size - n) = l.toArray.size by omega] at this
  exact this
theorem lexHead_of_from (md : Region.Mode) (ops : Array Oper) : ∀ (fuel k : Nat) (listed : Array Bool), Region.lexFrom md ops fuel k listed = true → Region.lexHead md ops 0 fuel k listed = true
  | 0, k, listed, h => by simpa [Region.lexHead, Region.lexFrom, Region.seqB] using h
  | f + 1, k, listed, h => by
    simp only [Region.lexFrom, Region.lexHead, Bool.and_eq_true] at h ⊢
    exact ⟨h.1, lexHead_of_from md ops f _ _ h.2⟩
theorem wp_region_give_all {id : Nat} {Q : Exit → Act → World → Prop} {a : Act} {w : World} {l : List Oper} (rel : Nat → Option Rel) (takes : Nat → List Nat) {D : World → Prop} (σ : Sig) (hCD : ∀ X us, SepF F w X us → D X)
    (hm : P.follows .mixedOrders = true) (hB : Region.lexB .any l.toArray = true) (hP : planB takes l.toArray .any = true) (hS : SepF F w w.drew (sigAll l.length σ))
    (h : wpGive P l.toArray (GC F w l.length) D rel takes (fun a' σ' => ∀ X, SepF F w X (sigAll l.length σ') → Q .normal a' X) 0 l a σ) : (Code.region id l.toArray true).wp P Q a w := by
  simp only [Region.lexB, Bool.and_eq_true] at hB
  have inv0 : HeadInv .any l.toArray l.length (Array.replicate l.toArray.size false) :=
    ⟨by simp, fun j oj _ hl => (by rw [getD_replicate_false] at hl; cases hl), fun t h1 ht => by simp at ht; omega⟩
  have hD : ∃ w, D w := ⟨_, hCD _ _ hS⟩
  have H := headG_lex (md := .any) (n := l.length) (g := 0) (Lq := fun a' σ' => ∀ X, SepF F w X (sigAll l.length σ') → Q .normal a' X) hD hB.1 (fun i hi listed inv hun j hj => by
    obtain ⟨_, o, ho, _⟩ := mem_ready.1 hj
    simpa using (Array.getElem?_eq_some_iff.1 ho).1) hP l 0 _ a σ (fun j hj => by simp) (by simp) inv0 (fun j hj => by omega) (lexHead_of_from _ _ _ _ _ (by simpa using hB.2)) h
  refine wp_region_any hm ?_
  have := headG_any (Q := Q) (C := GC F w l.length) (D := D) (g := 0) (fun s X hX => hCD X _ hX) (fun listed a' s' w' hw' hL => ⟨by simpa [Region.seqB] using hL.1, hL.2 w' hw'⟩) _ _ _ _ _ hS H
  simpa using this
theorem sep_und {w X : World} {us : List Thing} (h : SepF [] w X us) : ∃ x : Und w, X = und w x := ⟨⟨X, h.bel0⟩, rfl⟩
end
section
variable {P : Program} {ops : Array Oper} {C : Sig → World → Prop} {D : World → Prop} {rel : Nat → Option Rel} {takes : Nat → List Nat} {Q : Act → Sig → Prop} {i : Nat} {o : Oper} {rest : List Oper} {a : Act} {σ : Sig}
theorem give_nil (h : Q a σ) : wpGive P ops C D rel takes Q i [] a σ := h
theorem give_skip (hw : Region.wanted o (yielded ops a.tmps) = false) (h : wpGive P ops C D rel takes Q (i + 1) rest (a.put o.dst undef) σ) : wpGive P ops C D rel takes Q i (o :: rest) a σ :=
  ⟨_, .inl ⟨hw, rfl⟩, fun v f ⟨h1, h2⟩ => by subst h1; subst h2; exact h⟩
def Op.enters : Op → Bool
  | .move _ | .assign _ | .pick .. | .nilCheck .. | .load .. | .fieldAddr .. | .field .. | .indexAddr .. | .index .. | .build .. | .binOp .. | .unOp .. | .convert .. | .slice .. | .extract .. => false
  | .call c => match c.callee with
    | .builtin .len | .builtin .cap | .builtin .max | .builtin .min => false
    | _ => true
  | _ => true
theorem noE {s : Sem Value} {P : Program} {w w' : World} {f : FuncId} {args : Array Value} : (do pure (Next.value (← s)) : Sem Next).run P w ≠ .ok (.enter f args) w' := by
  intro e
  simp only [Sem.run_bind, Sem.run_pure] at e
  cases h : s.run P w <;> rw [h] at e <;> simp [Result.andThen] at e
theorem noP {P : Program} {w w' : World} {n : Next} : (runtimePanic .nilDeref : Sem Next).run P w ≠ .ok n w' := by
  simp [runtimePanic, go_sem]
theorem no_enter {o : Oper} (h : Op.enters o.op = false) (ρ : Operand → Value) (P : Program) (w w' : World) (f : FuncId) (args : Array Value) : (execOp ρ o).run P w ≠ .ok (.enter f args) w' := by
  unfold execOp
  cases ho : o.op <;> rw [ho] at h <;> simp only [Op.enters, reduceCtorEq] at h <;> try exact noE
  · simp
  · simp
  · intro e
    simp only [Sem.run_bind, Sem.run_pure] at e
    revert e
    generalize (asBool _).run P w = r
    cases r <;> simp [Result.andThen]
  · rename_i x
    dsimp only
    split
    · exact noP
    · exact noP
    · exact noP
    · split
      · exact noP
      · intro e
        simp only [Sem.run_bind] at e
        generalize Sem.run P program w = r1 at e
        cases r1 with
        | halt h1 w1 => simp [Result.andThen] at e
        | ok a1 w1 =>
          simp only [Result.andThen_ok] at e
          generalize Sem.run P _ w1 = r2 at e
          cases r2 with
          | halt h1 w2 => simp [Result.andThen] at e
          | ok a2 w2 =>
            simp only [Result.andThen_ok] at e
            split at e
            · simp only [Sem.run_bind, Sem.run_pure] at e
              generalize Sem.run P (unsupported _) w2 = r3 at e
              cases r3 <;> simp [Result.andThen] at e
            · simp at e
      · simp
    · simp
  · rename_i c
    cases hc : c.callee <;> rw [hc] at h <;> try cases h
    rename_i b
    cases b <;> (try cases h) <;> (simp only [resolve, hc, invoke, builtin, Sem.run_bind, Sem.run_pure, Result.andThen_ok]; intro e; revert e; generalize Sem.run P _ w = r; cases r <;> simp [Result.andThen])
theorem det_of_quiet {v : Value} (h : Op.enters o.op = false) (hq : ∀ w, D w → o.quietAt P a D w v) : GDet P D o a v := fun w hw => by
  have h1 := hq w hw
  unfold Oper.quietAt at h1
  have h2 := no_enter h a.eval P w
  generalize (execOp a.eval o).run P w = R at *
  cases R with
  | ok n w' =>
    cases n <;> simp only [Oper.quietUpon] at h1
    · exact h1
    · exact ⟨h1.1, h1.2.symm⟩
    · exact absurd rfl (h2 _ _ _)
  | halt x w' => exact h1.elim
theorem give_det (hw : Region.wanted o (yielded ops a.tmps) = true) (hr : rel i = none) (hc : Op.enters o.op = false) (h : ∀ K : Act → Prop, (∀ a, wpGive P ops C D rel takes Q (i + 1) rest a σ → K a) → o.quiet P a D K) : wpGive P ops C D rel takes Q i (o :: rest) a σ := by
  obtain ⟨v, h1, h2⟩ := h _ fun _ h => h
  exact ⟨_, .inr (.inl ⟨hw, hr, v, det_of_quiet hc h1, rfl⟩), fun u f ⟨h3, h4⟩ => by subst h3; subst h4; exact h2⟩
theorem give_rel {r : Rel} (hw : Region.wanted o (yielded ops a.tmps) = true) (hr : rel i = some r) (hv : GValid P C takes i o a σ (GRelAt takes r i o a σ)) (hin : ∃ v ds, GRelAt takes r i o a σ v ds)
    (h : ∀ v ds, GRelAt takes r i o a σ v ds → wpGive P ops C D rel takes Q (i + 1) rest (a.put o.dst v) (sigUpd takes σ i ds)) : wpGive P ops C D rel takes Q i (o :: rest) a σ :=
  ⟨_, .inr (.inr ⟨hw, r, hr, hv, hin, rfl⟩), fun v f ⟨ds, h3, h4⟩ => by subst h4; exact h v ds h3⟩
end
def GvQ (F : List Nat) (w : World) (r : Value → List Thing → Prop) (d : Nat) (df : List Deferred) (rest : List Thing) (x : Exit) (a' : Act) (w' : World) : Prop :=
  x = .normal ∧ a'.defers = df ∧ ∃ ds, r (a'.tmps.getD d undef) ds ∧ SepF F w w' (ds ++ rest)
theorem flatMap_filter_not {β : Type} (p : β → Bool) (f : β → List Thing) : ∀ l : List β, l.flatMap (fun k => bif p k then [] else f k) = (l.filter fun k => !p k).flatMap f
  | [] => rfl
  | x :: l => by
    rw [List.flatMap_cons, flatMap_filter_not p f l, List.filter_cons]
    cases p x <;> simp
theorem flatMap_subN {l m : List Thing} (h : l.Sublist m) : (l.flatMap (·.fp)).Sublist (m.flatMap (·.fp)) := by
  induction h with
  | slnil => exact List.Sublist.refl _
  | cons x h ih => rw [List.flatMap_cons]; exact ih.trans (List.sublist_append_right _ _)
  | cons_cons x h ih => rw [List.flatMap_cons, List.flatMap_cons]; exact List.Sublist.append_left ih _
theorem flatMap_sub {β : Type} (f : β → List Thing) {l m : List β} (h : l.Sublist m) : (l.flatMap f).Sublist (m.flatMap f) := by
  induction h with
  | slnil => exact List.Sublist.refl _
  | cons x h ih => rw [List.flatMap_cons]; exact ih.trans (List.sublist_append_right _ _)
  | cons_cons x h ih => rw [List.flatMap_cons, List.flatMap_cons]; exact List.Sublist.append_left ih _
section
variable {takes : Nat → List Nat} {σ : Sig} {i N : Nat} {ds : List Thing}
theorem sigAll_upd (hi : i ≤ N) : (sigAll N (sigUpd takes σ i ds)).Perm (ds ++ sigAll N (sigUpd takes σ i [])) := by
  unfold sigAll
  have hnd : (List.range (N + 1)).Nodup := List.nodup_range
  have hm : i ∈ List.range (N + 1) := by rw [List.mem_range]; omega
  obtain ⟨s, t, hst⟩ := List.append_of_mem hm
  rw [hst] at hnd ⊢
  have hs : i ∉ s := fun h => (List.nodup_append.1 hnd).2.2 i h i (by simp) rfl
  have ht : i ∉ t := by
    have := (List.nodup_append.1 hnd).2.1
    rw [List.nodup_cons] at this
    exact this.1
  have e : ∀ l : List Nat, i ∉ l → l.flatMap (sigUpd takes σ i ds) = l.flatMap (sigUpd takes σ i []) := fun l hl => by
    rw [List.flatMap_def, List.flatMap_def]
    refine congrArg List.flatten (List.map_congr_left fun k hk => ?_)
    have : (k == i) = false := by rw [beq_eq_false_iff_ne]; rintro rfl; exact hl hk
    unfold sigUpd
    rw [this]; rfl
  have ei : ∀ es, sigUpd takes σ i es i = es := fun es => by unfold sigUpd; simp
  rw [List.flatMap_append, List.flatMap_cons, List.flatMap_append, List.flatMap_cons, e s hs, e t ht, ei, ei, List.nil_append]
  exact List.perm_append_comm_assoc _ _ _
theorem sigAll_take (hn : (takes i).Nodup) (hk : ∀ k ∈ takes i, k ≤ N) : ∃ l', l'.Perm (sigAll N σ) ∧ ((takes i).flatMap σ ++ sigAll N (sigUpd takes σ i [])).Sublist l' := by
  refine ⟨(takes i).flatMap σ ++ ((List.range (N + 1)).filter fun k => !(takes i).contains k).flatMap σ, ?_, ?_⟩
  · rw [← List.flatMap_append]
    refine List.Perm.flatMap_right _ ?_
    rw [List.perm_ext_iff_of_nodup ?_ List.nodup_range]
    · intro k
      rw [List.mem_append, List.mem_filter, List.mem_range]
      by_cases h : k ∈ takes i
      · have := hk k h
        simp [h]; omega
      · simp [h]
    · rw [List.nodup_append]
      refine ⟨hn, List.nodup_range.sublist List.filter_sublist, fun a ha b hb e => ?_⟩
      subst e
      rw [List.mem_filter] at hb
      simp [ha] at hb
  · refine List.Sublist.append_left ?_ _
    unfold sigAll
    have e : sigUpd takes σ i [] = fun k => bif (k == i || (takes i).contains k) then [] else σ k := by
      funext k
      unfold sigUpd
      cases (k == i) <;> cases (takes i).contains k <;> rfl
    rw [e, flatMap_filter_not]
    refine flatMap_sub _ ?_
    rw [show (fun k : Nat => !(k == i || (takes i).contains k)) = fun k => (!(k == i)) && (!(takes i).contains k) by funext k; rw [Bool.not_or], ← List.filter_filter]
    exact List.filter_sublist
end
theorem SepF.subE {F : List Nat} {w0 wr : World} {ts us : List Thing} (h : SepF F w0 wr ts) (hs : us.Sublist ts) : SepF F w0 wr us :=
  ⟨h.chg, h.nd.sublist (flatMap_subN hs), fun b hb => h.new b ((flatMap_subN hs).subset hb), fun t ht => h.hold t (hs.subset ht)⟩
theorem SepF.permE {F : List Nat} {w0 wr : World} {ts us : List Thing} (h : SepF F w0 wr ts) (hp : us.Perm ts) : SepF F w0 wr us :=
  h.conv (List.Perm.flatMap_right _ hp) fun u hu => h.hold u (hp.mem_iff.1 hu)
theorem SepF.sigTake {F : List Nat} {w X : World} {takes : Nat → List Nat} {σ : Sig} {i N : Nat} (h : SepF F w X (sigAll N σ)) (hn : (takes i).Nodup) (hk : ∀ k ∈ takes i, k ≤ N) : SepF F w X ((takes i).flatMap σ ++ sigAll N (sigUpd takes σ i [])) := by
  obtain ⟨l', h1, h2⟩ := sigAll_take (σ := σ) hn hk
  exact (h.permE h1).subE h2
section
variable {P : Program} {F : List Nat} {w : World} {N : Nat} {ops : Array Oper} {D : World → Prop} {rel : Nat → Option Rel} {takes : Nat → List Nat} {Q : Act → Sig → Prop} {i : Nat} {o : Oper} {rest : List Oper} {a : Act} {σ : Sig}
theorem put_get {a : Act} {d : Nat} (hs : d < a.tmps.size) (v : Value) : (a.put (some d) v).tmps.getD d undef = v := by
  simp [Act.put, hs]
theorem gvalid_of {r : Value → List Thing → Prop} (d : Nat) (hd : o.dst = some d) (hs : d < a.tmps.size) (hw : Region.wanted o (yielded ops a.tmps) = true) (hi : i ≤ N) (hn : (takes i).Nodup) (hk : ∀ k ∈ takes i, k ≤ N)
    (h : ∀ others X, SepF F w X ((takes i).flatMap σ ++ others) → wpList P ops (GvQ F w r d a.defers others) [o] a X) : GValid P (GC F w N) takes i o a σ r := by
  intro σ' X hC hag
  have e4 : (takes i).flatMap σ' = (takes i).flatMap σ := by
    rw [List.flatMap_def, List.flatMap_def]; exact congrArg List.flatten (List.map_congr_left hag)
  have h0 : SepF F w X (sigAll N σ') := hC
  have h1 := h0.sigTake hn hk
  rw [e4] at h1
  have h2 := h _ X h1
  have fin : ∀ u w', GvQ F w r d a.defers (sigAll N (sigUpd takes σ' i [])) .normal (a.put o.dst u) w' → ∃ ds, r u ds ∧ GC F w N (sigUpd takes σ' i ds) w' := fun u w' ⟨_, _, ds, h3, h4⟩ => by
    rw [hd, put_get hs] at h3
    exact ⟨ds, h3, h4.permE (sigAll_upd hi)⟩
  unfold wpList at h2
  rw [if_pos hw] at h2
  have h3 : o.wp P a X (fun a' w' => GvQ F w r d a.defers (sigAll N (sigUpd takes σ' i [])) .normal a' w') (GvQ F w r d a.defers (sigAll N (sigUpd takes σ' i []))) := by
    first
      | exact h2
      | exact h2.elim id fun h => by obtain ⟨_, a', w', h, _⟩ := h; cases h
  unfold Oper.wp at h3
  generalize (execOp a.eval o).run P X = R at *
  cases R with
  | ok n w' =>
    cases n <;> simp only [Oper.upon] at h3 <;> simp only [ups] <;> first | exact fin _ _ h3 | skip
    · refine h3.mono fun e w'' he => ?_
      cases e with
      | returned v => exact ⟨v, rfl, fin _ _ he⟩
      | panicked c => exact absurd he.1 (by simp)
      | outgrown => obtain ⟨a', w', h, _⟩ := he; cases h
    · have := h3.2.1
      rw [hd] at this
      exact absurd this (by simp [Act.put])
    · exact Rows.mono h3 fun v w'' he => fin _ _ he
  | halt x w' => cases x <;> simp only [Oper.upon] at h3; exact absurd h3.1 (by simp)
theorem give_op {R : Rel} (d : Nat) (hw : Region.wanted o (yielded ops a.tmps) = true) (hr : rel i = some R) (hd : o.dst = some d) (hs : d < a.tmps.size) (hi : i ≤ N) (hn : (takes i).Nodup) (hk : ∀ k ∈ takes i, k ≤ N)
    (hin : ∃ v ds, R (o.op.operands.toList.map a.eval) ((takes i).flatMap σ) v ds)
    (h : ∀ others X, SepF F w X ((takes i).flatMap σ ++ others) → wpList P ops (GvQ F w (R (o.op.operands.toList.map a.eval) ((takes i).flatMap σ)) d a.defers others) [o] a X)
    (hnext : ∀ v ds, R (o.op.operands.toList.map a.eval) ((takes i).flatMap σ) v ds → wpGive P ops (GC F w N) D rel takes Q (i + 1) rest (a.put (some d) v) (sigUpd takes σ i ds)) : wpGive P ops (GC F w N) D rel takes Q i (o :: rest) a σ :=
  give_rel hw hr (gvalid_of d hd hs hw hi hn hk h) hin (fun v ds hv => by rw [hd]; exact hnext v ds hv)
end
section
variable {P : Program} {F : List Nat} {w : World} {N : Nat} {ops : Array Oper} {D : World → Prop} {rel : Nat → Option Rel} {takes : Nat → List Nat} {Q : Act → Sig → Prop} {i : Nat} {o : Oper} {rest : List Oper} {a : Act} {σ : Sig}
theorem give_op0 {R : Rel} (d : Nat) (hw : Region.wanted o (yielded ops a.tmps) = true) (hr : rel i = some R) (hd : o.dst = some d) (hs : Nat.blt d a.tmps.size = true) (hi : Nat.ble i N = true) (ht : takes i = [])
    (hin : ∃ v ds, R (o.op.operands.toList.map a.eval) [] v ds)
    (h : ∀ others X, SepF F w X others → wpList P ops (GvQ F w (R (o.op.operands.toList.map a.eval) []) d a.defers others) [o] a X)
    (hnext : ∀ v ds, R (o.op.operands.toList.map a.eval) [] v ds → wpGive P ops (GC F w N) D rel takes Q (i + 1) rest (a.put (some d) v) (sigUpd takes σ i ds)) : wpGive P ops (GC F w N) D rel takes Q i (o :: rest) a σ := by
  have e : (takes i).flatMap σ = [] := by rw [ht]; rfl
  refine give_op d hw hr hd (by simpa [Nat.blt_eq] using hs) (Nat.le_of_ble_eq_true hi) (by rw [ht]; exact List.nodup_nil) (by rw [ht]; intro k hk; cases hk) ?_ ?_ ?_
  · rw [e]; exact hin
  · rw [e]; exact h
  · rw [e]; exact hnext
theorem give_op1 {R : Rel} (d k : Nat) (hw : Region.wanted o (yielded ops a.tmps) = true) (hr : rel i = some R) (hd : o.dst = some d) (hs : Nat.blt d a.tmps.size = true) (hi : Nat.ble i N = true) (ht : takes i = [k]) (hk : Nat.ble k N = true)
    (tk : List Thing) (htk : σ k = tk)
    (hin : ∃ v ds, R (o.op.operands.toList.map a.eval) tk v ds)
    (h : ∀ others X, SepF F w X (tk ++ others) → wpList P ops (GvQ F w (R (o.op.operands.toList.map a.eval) tk) d a.defers others) [o] a X)
    (hnext : ∀ v ds, R (o.op.operands.toList.map a.eval) tk v ds → wpGive P ops (GC F w N) D rel takes Q (i + 1) rest (a.put (some d) v) (sigUpd takes σ i ds)) : wpGive P ops (GC F w N) D rel takes Q i (o :: rest) a σ := by
  have e : (takes i).flatMap σ = tk := by rw [ht, ← htk]; simp
  refine give_op d hw hr hd (by simpa [Nat.blt_eq] using hs) (Nat.le_of_ble_eq_true hi) (by rw [ht]; simp) (by rw [ht]; intro x hx; rw [List.mem_singleton.1 hx]; exact Nat.le_of_ble_eq_true hk) ?_ ?_ ?_
  · rw [e]; exact hin
  · rw [e]; exact h
  · rw [e]; exact hnext
end
theorem sep_eq {F : List Nat} {w0 wr : World} {ts us : List Thing} (h : SepF F w0 wr ts) (e : ts = us) : SepF F w0 wr us := e ▸ h
theorem SepF.startDrew (w : World) : SepF [] w w.drew [] := ⟨Chg.of_below (Below.refl _ _).drew, by simp, by simp, by simp⟩
theorem SepF.join {F : List Nat} {w0 wr W : World} {ts us : List Thing} (h : SepF F w0 wr ts) (hS : SepF [] wr W us) : SepF F w0 W (us ++ ts) := by
  have h1 := h.step hS.bel0
  refine ⟨h1.chg, ?_, fun b hb => ?_, fun u hu => ?_⟩
  · rw [List.flatMap_append, List.nodup_append]
    refine ⟨hS.nd, h.nd, fun x hx y hy e => ?_⟩
    subst e
    have h2 := h.lt x hy
    rcases hS.new x hx with h3 | h3
    · cases h3
    · omega
  · rw [List.flatMap_append] at hb
    rcases List.mem_append.1 hb with hb | hb
    · rcases hS.new b hb with h3 | h3
      · cases h3
      · have := h.chg.size; exact .inr (by omega)
    · exact h.new b hb
  · rcases List.mem_append.1 hu with hu | hu
    · exact hS.hold u hu
    · exact h1.hold u hu
def gSl {α : Type} (E : Rep α) (e : TypeId) (xs : List α) : Rel := fun _ _ v ds => ∃ A n c fp, v = .slice A n c ∧ ds = [tsl E e xs (.slice A n c) fp] ∧ Hid (n = xs.length)
def gPtr (T : TypeId) (cs : List Value) : Rel := fun _ _ v ds => ∃ g, v = .pointer (some ⟨g, 0, none⟩) ∧ ds = [tblk g T cs]
def gVal (x : Value) : Rel := fun _ _ v ds => v = x ∧ ds = []
theorem gSl_in {α : Type} {E : Rep α} {e : TypeId} {xs : List α} {vals : List Value} {tk : List Thing} : ∃ v ds, gSl E e xs vals tk v ds := ⟨_, _, none, xs.length, 0, [], rfl, rfl, rfl⟩
theorem gPtr_in {T : TypeId} {cs vals : List Value} {tk : List Thing} : ∃ v ds, gPtr T cs vals tk v ds := ⟨_, _, 0, rfl, rfl⟩
theorem gVal_in {x : Value} {vals : List Value} {tk : List Thing} : ∃ v ds, gVal x vals tk v ds := ⟨_, _, rfl, rfl⟩
section
variable {F : List Nat} {w X W : World} {others : List Thing} {vals : List Value} {tk : List Thing} {d : Nat} {df : List Deferred} {a' : Act}
theorem gvq_sl {α : Type} {E : Rep α} {e : TypeId} {xs : List α} {A : Option Addr} {n c : Nat} {fp : List Nat} (h : SepF F w X others) (hb : Below X.heap.size X W) (hs : SlOwn E e W xs (.slice A n c) fp) (hnd : fp.Nodup) (hnew : ∀ b, b ∈ fp → X.heap.size ≤ b)
    (hv : a'.tmps.getD d undef = .slice A n c) (hdf : a'.defers = df) : GvQ F w (gSl E e xs vals tk) d df others .normal a' W := by
  obtain ⟨A', n', c', h1, h2, _⟩ := hs.form
  injection h1 with e1 e2 e3
  exact ⟨rfl, hdf, _, ⟨A, n, c, fp, hv, rfl, e2.trans h2⟩, h.add hb (t := tsl E e xs (.slice A n c) fp) hs hnd hnew⟩
theorem gvq_ptr {T : TypeId} {cs : List Value} {g : Nat} (h : SepF F w X others) (hg : X.heap.size = g) (hv : a'.tmps.getD d undef = .pointer (some ⟨g, 0, none⟩)) (hdf : a'.defers = df) : GvQ F w (gPtr T cs vals tk) d df others .normal a' (X.alloc (.cells cs.toArray T)) :=
  ⟨rfl, hdf, _, ⟨_, hv, rfl⟩, h.alloc' hg T cs⟩
theorem gvq_val {x : Value} (h : SepF F w X others) (hb : Below X.heap.size X W) (hv : a'.tmps.getD d undef = x) (hdf : a'.defers = df) : GvQ F w (gVal x vals tk) d df others .normal a' W :=
  ⟨rfl, hdf, [], ⟨hv, rfl⟩, h.step hb⟩
end
end Mm
end Go.Proofs.YtbhmdnjammnlnaaGreatDoor

namespace Go.Proofs.YtbhmdnjammnlnaaGreatDoor
open Go.RowKit
end Go.Proofs.YtbhmdnjammnlnaaGreatDoor

