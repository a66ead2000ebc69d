/-
  Joined texts, in build order: Pc, Pk, Ph, Pb, In, Ik, Pn, Lj, Wq, Wr, Wx. Each part says what it proves; no conditions beyond those that a part names.
-/
import Derived.Test.YtnppcdiicnofpaaZ01
import Derived.Test.YtnppcdiicnofpaaZ02
import Derived.WalkKit
import Derived.Lib.Strings
import Derived.Shelf.Spec.SearchS
import Derived.Lib.Join
import Derived.Shelf.Spec.SlicesInsertGrow
import Derived.Lib.AppendZerosOnto
import Derived.Lib.Overlaps
import Derived.Lib.Bytealg
import Derived.Shelf.Strings.OnBuilder
import Derived.Lib.Hide
import Derived.Deep.DeepCutAuto
/-
  Plain functions on lists: a test of all elements, sums. No program in sight. No conditions.
-/
namespace Go.Proofs.Ytnppcdiicnofpaa
namespace Pl
/-- every number below n is good -/
def allB (n : Nat) (g : Nat → Bool) : Bool := (List.range n).all g
theorem allB_iff {n : Nat} {g : Nat → Bool} : allB n g = true ↔ ∀ i, i < n → g i = true := by
  unfold allB; simp
theorem allB_no {n k : Nat} {g : Nat → Bool} (hk : k < n) (h : g k = false) : allB n g = false := by
  cases hb : allB n g with
  | false => rfl
  | true => rw [allB_iff.1 hb k hk] at h; cases h
theorem allB_yes {n : Nat} {g : Nat → Bool} (h : ∀ i, i < n → g i = true) : allB n g = true := allB_iff.2 h

theorem snocB {k : Nat} {p : Nat → Prop} (h : ∀ i, i < k → p i) (hk : p k) : ∀ i, i < k + 1 → p i := fun i hi => by
  rcases Nat.lt_succ_iff_lt_or_eq.1 hi with h1 | rfl
  · exact h i h1
  · exact hk
section
variable {α : Type} {p : α → Bool} {l : List α} {k : Nat} {x : α}
def upTo (p : α → Bool) (l : List α) (k : Nat) : Prop := ∀ i x, i < k → l[i]? = some x → p x = true
theorem upTo0 : upTo p l 0 := fun i _ h => absurd h (Nat.not_lt_zero i)
theorem upTo1 (h : upTo p l k) (hx : l[k]? = some x) (hp : p x = true) : upTo p l (k + 1) := fun i y hi hy => by
  by_cases e : i = k
  · subst e; rw [hx] at hy; injection hy with hy; rw [← hy]; exact hp
  · exact h i y (by omega) hy
theorem upToE (h : upTo p l k) (hk : l.length ≤ k) : l.all p = true := List.all_eq_true.2 fun y hy => by
  obtain ⟨i, hi, rfl⟩ := List.mem_iff_getElem.1 hy
  exact h i _ (by omega) (List.getElem?_eq_getElem hi)
theorem upToB (hx : l[k]? = some x) (hp : p x = false) : l.all p = false := List.all_eq_false.2 ⟨x, List.mem_of_getElem? hx, by rw [hp]; simp⟩
theorem all_at {p : α → Bool} {l : List α} (h : l.all p = true) {k : Nat} {x : α} (hx : l[k]? = some x) : p x = true := List.all_eq_true.1 h x (List.mem_of_getElem? hx)
end
def allIn (a b : Int) (l : List Int) : Bool := l.all fun x => isIn x a b
theorem isIn_iff {n a b : Int} : isIn n a b = true ↔ a ≤ n ∧ n ≤ b := by unfold isIn; simp
theorem isIn_no {n a b : Int} : isIn n a b = false ↔ ¬ (a ≤ n ∧ n ≤ b) := by
  unfold isIn; rw [← Bool.not_eq_true]; simp
theorem isIn_mk {n a b : Int} (h1 : a ≤ n) (h2 : n ≤ b) : isIn n a b = true := isIn_iff.2 ⟨h1, h2⟩
theorem allIn_at {a b : Int} {l : List Int} (h : allIn a b l = true) {k : Nat} {x : Int} (hx : l[k]? = some x) : a ≤ x ∧ x ≤ b := isIn_iff.1 (all_at h hx)
def sumTo (l : List Int) : Nat → Int
  | 0 => 0
  | k + 1 => sumTo l k + l.getD k 0
def sum (l : List Int) : Int := sumTo l l.length
theorem sumTo_next {l : List Int} {k : Nat} {x : Int} (hx : l[k]? = some x) : sumTo l (k + 1) = sumTo l k + x := by
  rw [sumTo, List.getD_eq_getElem?_getD, hx]; rfl
theorem getD_bd {l : List Int} {a b : Int} (h : allIn a b l = true) (h0 : a ≤ 0) (h1 : 0 ≤ b) (k : Nat) : a ≤ l.getD k 0 ∧ l.getD k 0 ≤ b := by
  rw [List.getD_eq_getElem?_getD]
  cases hx : l[k]? with
  | none => exact ⟨h0, h1⟩
  | some x => exact allIn_at h hx
theorem sumTo_bd {l : List Int} {a b : Int} (h : allIn a b l = true) (h0 : a ≤ 0) (h1 : 0 ≤ b) : ∀ k : Nat, a * k ≤ sumTo l k ∧ sumTo l k ≤ b * k
  | 0 => by simp [sumTo]
  | k + 1 => by
    have h2 := sumTo_bd h h0 h1 k
    have h3 := getD_bd h h0 h1 k
    rw [sumTo]
    push_cast
    rw [Int.mul_add, Int.mul_add, Int.mul_one, Int.mul_one]
    omega
theorem getD_upTo {l : List Int} {a b : Int} {k : Nat} (h : upTo (fun x => isIn x a b) l k) (h0 : a ≤ 0) (h1 : 0 ≤ b) {i : Nat} (hi : i < k) : a ≤ l.getD i 0 ∧ l.getD i 0 ≤ b := by
  rw [List.getD_eq_getElem?_getD]
  cases hx : l[i]? with
  | none => exact ⟨h0, h1⟩
  | some x => exact isIn_iff.1 (h i x hi hx)
theorem sumTo_bd' {l : List Int} {a b : Int} {k : Nat} (h : upTo (fun x => isIn x a b) l k) (h0 : a ≤ 0) (h1 : 0 ≤ b) : ∀ j : Nat, j ≤ k → a * j ≤ sumTo l j ∧ sumTo l j ≤ b * j
  | 0, _ => by simp [sumTo]
  | j + 1, hj => by
    have h2 := sumTo_bd' h h0 h1 j (by omega)
    have h3 := getD_upTo h h0 h1 (show j < k by omega)
    rw [sumTo]
    push_cast
    rw [Int.mul_add, Int.mul_add, Int.mul_one, Int.mul_one]
    omega
end Pl
end Go.Proofs.Ytnppcdiicnofpaa

/-
  Plain functions on sketches and heavy hitters. No program in sight. No conditions.
-/
namespace Go.Proofs.Ytnppcdiicnofpaa
namespace Pl
/-- what a sketch must be -/
def rowOk (t : Int) (r : List Int) : Bool := decide (r.length = 11) && allIn 0 100000 r && decide (sum r = t)
def sketchOk (s : Sketch) : Bool := isIn s.Rows.length 1 3 && s.Rows.all (rowOk s.Total)
theorem rowOk_iff {t : Int} {r : List Int} : rowOk t r = true ↔ r.length = 11 ∧ allIn 0 100000 r = true ∧ sum r = t := by
  unfold rowOk; simp [and_assoc]
theorem sum_bd {l : List Int} {a b : Int} (h : allIn a b l = true) (h0 : a ≤ 0) (h1 : 0 ≤ b) : a * l.length ≤ sum l ∧ sum l ≤ b * l.length := sumTo_bd h h0 h1 _
def guessTo (rows : List (List Int)) (name : List UInt8) : Nat → Int
  | 0 => 100000
  | k + 1 => if (rows.getD k []).getD (place k name).toNat 0 < guessTo rows name k then (rows.getD k []).getD (place k name).toNat 0 else guessTo rows name k
def guessOf (s : Sketch) (name : ByteArray) : Int × Bool :=
  if (sketchOk s && word false name.data.toList) = true then (guessTo s.Rows name.data.toList s.Rows.length, true) else (0, false)
theorem ba_nil {x : ByteArray} (h : x.toList = []) : x = ⟨#[]⟩ := by
  rw [Lib.toList_data] at h
  cases x with
  | mk a => simp at h; rw [h]
theorem beq_dec (a b : Int) : (a == b) = decide (a = b) := by
  by_cases h : a = b
  · subst h; simp
  · simp [h]
def strAt (l : List ByteArray) (i : Nat) : ByteArray := l.getD i ByteArray.empty
theorem strAt_of {l : List ByteArray} {i : Nat} {x : ByteArray} (h : l[i]? = some x) : strAt l i = x := by
  unfold strAt; rw [List.getD_eq_getElem?_getD, h]; rfl
theorem getD_of {l : List Int} {i : Nat} {x : Int} (h : l[i]? = some x) : l.getD i 0 = x := by
  rw [List.getD_eq_getElem?_getD, h]; rfl
/-- what is said of one place -/
def slotP (k : Nat) (x : ByteArray) (y : Int) (z : ByteArray) : Bool :=
  if x.toList = [] then decide (y = 0) else word false x.data.toList && isIn y 1 100000 && (decide (k = 0) || (Op.bytesLess z.toList x.toList && !z.toList.isEmpty))
def slotOk (h : Heavy) (i : Nat) : Bool := slotP i (strAt h.Names i) (h.Counts.getD i 0) (strAt h.Names (i - 1))
theorem slotOk_of {h : Heavy} {i : Nat} {x z : ByteArray} {y : Int} (hx : h.Names[i]? = some x) (hy : h.Counts[i]? = some y) (hz : h.Names[i - 1]? = some z) : slotOk h i = slotP i x y z := by
  unfold slotOk; rw [strAt_of hx, strAt_of hz, getD_of hy]
def heavyOk (h : Heavy) : Bool :=
  isIn (h.Names.length : Int) 1 6 && decide (h.Counts.length = h.Names.length) && isIn h.Gone 0 100000 && isIn h.Total 0 1000000 && allB h.Names.length (slotOk h) && decide (sum h.Counts + h.Gone * ((h.Names.length : Int) + 1) = h.Total)
theorem slotP_bd {k : Nat} {x z : ByteArray} {y : Int} (h : slotP k x y z = true) : 0 ≤ y ∧ y ≤ 100000 := by
  unfold slotP at h
  split at h
  · simp at h; omega
  · simp only [Bool.and_eq_true] at h
    have := isIn_iff.1 h.1.2; omega
theorem sumTo_slot {h : Heavy} : ∀ {k : Nat}, (∀ i, i < k → slotOk h i = true) → 0 ≤ sumTo h.Counts k ∧ sumTo h.Counts k ≤ 100000 * k
  | 0, _ => by simp [sumTo]
  | k + 1, hh => by
    have h1 := sumTo_slot (k := k) fun i hi => hh i (by omega)
    have h2 := slotP_bd (hh k (by omega))
    rw [sumTo]
    push_cast
    omega
theorem slots_in {h : Heavy} (hl : h.Counts.length = h.Names.length) (hh : ∀ i, i < h.Names.length → slotOk h i = true) : allIn (-1000000) 1000000 h.Counts = true := List.all_eq_true.2 fun y hy => by
  obtain ⟨i, hi, rfl⟩ := List.mem_iff_getElem.1 hy
  have h2 := slotP_bd (hh i (by omega))
  rw [getD_of (List.getElem?_eq_getElem hi)] at h2
  exact isIn_mk (by omega) (by omega)
theorem heavyOk_iff {h : Heavy} : heavyOk h = true ↔ (1 ≤ (h.Names.length : Int) ∧ (h.Names.length : Int) ≤ 6) ∧ h.Counts.length = h.Names.length ∧ (0 ≤ h.Gone ∧ h.Gone ≤ 100000) ∧ (0 ≤ h.Total ∧ h.Total ≤ 1000000) ∧ (∀ i, i < h.Names.length → slotOk h i = true) ∧ sum h.Counts + h.Gone * ((h.Names.length : Int) + 1) = h.Total := by
  unfold heavyOk; simp only [Bool.and_eq_true, decide_eq_true_eq, isIn_iff, allB_iff, and_assoc]
/-- where a text stands, counted from k -/
def idxFrom (l : List ByteArray) (v : ByteArray) : Nat → Nat → Int
  | 0, _ => -1
  | f + 1, k => if strAt l k = v then (k : Int) else idxFrom l v f (k + 1)
def idx (l : List ByteArray) (v : ByteArray) : Int := idxFrom l v l.length 0
theorem idxFrom_bd {l : List ByteArray} {v : ByteArray} : ∀ (f k : Nat), idxFrom l v f k = -1 ∨ ((k : Int) ≤ idxFrom l v f k ∧ idxFrom l v f k < (k + f : Nat))
  | 0, k => .inl rfl
  | f + 1, k => by
    unfold idxFrom
    split
    · right; omega
    · rcases idxFrom_bd (l := l) (v := v) f (k + 1) with h | h
      · exact .inl h
      · right; omega
theorem idx_bd {l : List ByteArray} {v : ByteArray} : idx l v = -1 ∨ (0 ≤ idx l v ∧ idx l v < l.length) := by
  have := idxFrom_bd (l := l) (v := v) l.length 0
  unfold idx; simp at this; omega
theorem idx_yes {l : List ByteArray} {v : ByteArray} {k n : Nat} (hn : l.length = n) (h : idx l v = idxFrom l v (n - k) k) (hk : k < n) (he : strAt l k = v) : idx l v = k := by
  rw [h, show n - k = (n - (k + 1)) + 1 by omega, idxFrom, if_pos he]
theorem idx_no {l : List ByteArray} {v : ByteArray} {k n : Nat} (h : idx l v = idxFrom l v (n - k) k) (hk : k < n) (he : strAt l k ≠ v) : idx l v = idxFrom l v (n - (k + 1)) (k + 1) := by
  rw [h, show n - k = (n - (k + 1)) + 1 by omega, idxFrom, if_neg he]
theorem idx_end {l : List ByteArray} {v : ByteArray} {k n : Nat} (h : idx l v = idxFrom l v (n - k) k) (hk : ¬ k < n) : idx l v = -1 := by
  rw [h, show n - k = 0 by omega]; rfl
def leastOf (h : Heavy) (name : ByteArray) : Int × Int × Bool :=
  if (heavyOk h && word false name.data.toList) = true then
    if 0 ≤ idx h.Names name then (h.Counts.getD (idx h.Names name).toNat 0, h.Counts.getD (idx h.Names name).toNat 0 + h.Gone, true) else (0, h.Gone, true)
  else (0, 0, false)
def ret3 (x : Int × Int × Bool) : Ending := .returned (.tuple #[.int .i64 x.1, .int .i64 x.2.1, .bool x.2.2])
theorem rows_bd {s : Sketch} (h : sketchOk s = true) {k : Nat} {r : List Int} (hr : s.Rows[k]? = some r) : r.length = 11 ∧ allIn 0 100000 r = true ∧ sum r = s.Total := by
  unfold sketchOk at h
  rw [Bool.and_eq_true] at h
  exact rowOk_iff.1 (all_at h.2 hr)
theorem guessTo_bd {rows : List (List Int)} {name : List UInt8} (h : ∀ (k : Nat) (r : List Int), rows[k]? = some r → allIn 0 100000 r = true) : ∀ k, 0 ≤ guessTo rows name k ∧ guessTo rows name k ≤ 100000
  | 0 => by simp [guessTo]
  | k + 1 => by
    have h1 := guessTo_bd (name := name) h k
    have h2 : 0 ≤ (rows.getD k []).getD (place k name).toNat 0 := by
      rw [List.getD_eq_getElem?_getD]
      cases hr : (rows.getD k [])[(place k name).toNat]? with
      | none => exact Int.le_refl _
      | some x =>
        rw [List.getD_eq_getElem?_getD] at hr
        cases hk : rows[k]? with
        | none => rw [hk] at hr; simp at hr
        | some r =>
          rw [hk] at hr
          exact (allIn_at (h k r hk) hr).1
    unfold guessTo
    split <;> omega
theorem guessTo_next {rows : List (List Int)} {name : List UInt8} {k : Nat} {r : List Int} {x : Int} (hr : rows[k]? = some r) (hx : r[(place k name).toNat]? = some x) : guessTo rows name (k + 1) = if x < guessTo rows name k then x else guessTo rows name k := by
  rw [guessTo, List.getD_eq_getElem?_getD (l := rows), hr]
  show (if r.getD _ 0 < _ then r.getD _ 0 else _) = _
  rw [getD_of hx]
theorem guess_step {rows : List (List Int)} {name : List UInt8} {k : Nat} {x z : Int} (hz : z = guessTo rows name (max k 1)) (hn : guessTo rows name (k + 1) = if x < guessTo rows name k then x else guessTo rows name k) (hx : x ≤ 100000) :
    (x < z → x = guessTo rows name (max (k + 1) 1)) ∧ (¬ x < z → z = guessTo rows name (max (k + 1) 1)) := by
  rw [show max (k + 1) 1 = k + 1 by omega]
  by_cases hk : k = 0
  · subst hk
    rw [show max 0 1 = 0 + 1 by rfl] at hz
    rw [hz]
    rw [hn]
    show (x < (if x < (100000 : Int) then x else 100000) → x = if x < (100000 : Int) then x else 100000) ∧ _
    refine ⟨fun h => ?_, fun _ => rfl⟩
    split at h <;> omega
  · rw [show max k 1 = k by omega] at hz
    rw [hn, hz]
    exact ⟨fun h => by rw [if_pos h], fun h => by rw [if_neg h]⟩
def bump (r : List Int) (p : Nat) (many : Int) : List Int := r.set p (r.getD p 0 + many)
def addTo (rows : List (List Int)) (name : List UInt8) (many : Int) : Nat → List (List Int)
  | 0 => []
  | k + 1 => addTo rows name many k ++ [bump (rows.getD k []) (place k name).toNat many]
theorem addTo_len (rows : List (List Int)) (name : List UInt8) (many : Int) : ∀ k, (addTo rows name many k).length = k
  | 0 => rfl
  | k + 1 => by rw [addTo, List.length_append, addTo_len rows name many k]; rfl
theorem addTo_next {rows : List (List Int)} {name : List UInt8} {many : Int} {k : Nat} {r : List Int} (hr : rows[k]? = some r) : addTo rows name many (k + 1) = addTo rows name many k ++ [bump r (place k name).toNat many] := by
  rw [addTo, List.getD_eq_getElem?_getD, hr]; rfl
def bumped (s : Sketch) (name : List UInt8) (many : Int) : Sketch := ⟨addTo s.Rows name many s.Rows.length, s.Total + many⟩
def sk0 : Sketch := ⟨[], 0⟩
def addSketch (s : Sketch) (name : ByteArray) (many : Int) : Sketch × Bool :=
  if (sketchOk s && word false name.data.toList && isIn many 1 1000) = true then (if sketchOk (bumped s name.data.toList many) = true then (bumped s name.data.toList many, true) else (sk0, false)) else (sk0, false)
end Pl
end Go.Proofs.Ytnppcdiicnofpaa

/-
  Plain functions on heavy hitters: a name added. No program in sight. No conditions.
-/
namespace Go.Proofs.Ytnppcdiicnofpaa
namespace Pl
def lessB (x y : ByteArray) : Bool := Op.bytesLess x.toList y.toList
theorem bless_irrefl : ∀ x : List UInt8, Op.bytesLess x x = false
  | [] => rfl
  | a :: t => by rw [Op.bytesLess, bless_irrefl t]; simp
theorem bless_trans : ∀ {x y z : List UInt8}, Op.bytesLess x y = true → Op.bytesLess y z = true → Op.bytesLess x z = true
  | _, [], _, h, _ => by simp [Op.bytesLess] at h
  | _, _ :: _, [], _, h => by simp [Op.bytesLess] at h
  | [], _ :: _, _ :: _, _, _ => rfl
  | a :: x, b :: y, c :: z, h, k => by
    rw [Op.bytesLess] at h k ⊢
    simp only [Bool.or_eq_true, decide_eq_true_eq, Bool.and_eq_true, beq_iff_eq] at h k ⊢
    rcases h with h | ⟨rfl, h⟩
    · rcases k with k | ⟨rfl, k⟩
      · exact .inl (UInt8.lt_trans h k)
      · exact .inl h
    · rcases k with k | ⟨rfl, k⟩
      · exact .inl k
      · exact .inr ⟨rfl, bless_trans h k⟩
theorem bless_total : ∀ {x y : List UInt8}, x ≠ y → Op.bytesLess x y = true ∨ Op.bytesLess y x = true
  | [], [], h => absurd rfl h
  | [], _ :: _, _ => .inl rfl
  | _ :: _, [], _ => .inr rfl
  | a :: x, b :: y, h => by
    rw [Op.bytesLess, Op.bytesLess]
    simp only [Bool.or_eq_true, decide_eq_true_eq, Bool.and_eq_true, beq_iff_eq]
    by_cases hab : a = b
    · subst hab
      have : x ≠ y := fun e => h (by rw [e])
      rcases bless_total this with h1 | h1
      · exact .inl (.inr ⟨rfl, h1⟩)
      · exact .inr (.inr ⟨rfl, h1⟩)
    · rcases Nat.lt_or_gt_of_ne (fun e => hab (UInt8.toNat_inj.1 e)) with h1 | h1
      · exact .inl (.inl h1)
      · exact .inr (.inl h1)
theorem ba_inj {x v : ByteArray} (e : x.toList = v.toList) : x = v := by
  rw [Lib.toList_data, Lib.toList_data] at e
  cases x
  cases v
  exact congrArg ByteArray.mk (Array.toList_inj.1 e)
/-- names in order, then places that are free -/
structure HSort (l : List ByteArray) (m : Nat) : Prop where
  le : m ≤ l.length
  used : ∀ (i : Nat) x, i < m → l[i]? = some x → x.toList ≠ []
  free : ∀ (i : Nat) x, m ≤ i → l[i]? = some x → x.toList = []
  sort : ∀ (i j : Nat) x y, i < j → j < m → l[i]? = some x → l[j]? = some y → lessB x y = true
/-- how many of the names in order are less -/
def posF (l : List ByteArray) (x : ByteArray) : Nat → Nat → Nat
  | 0, k => k
  | f + 1, k => if (strAt l k).toList ≠ [] ∧ lessB (strAt l k) x = true then posF l x f (k + 1) else k
def posN (l : List ByteArray) (x : ByteArray) : Nat := posF l x l.length 0
theorem posF_spec (l : List ByteArray) (x : ByteArray) : ∀ (f k : Nat), k ≤ posF l x f k ∧ posF l x f k ≤ k + f ∧ (∀ t, k ≤ t → t < posF l x f k → (strAt l t).toList ≠ [] ∧ lessB (strAt l t) x = true) ∧ (posF l x f k < k + f → ¬ ((strAt l (posF l x f k)).toList ≠ [] ∧ lessB (strAt l (posF l x f k)) x = true))
  | 0, k => ⟨Nat.le_refl _, Nat.le_refl _, fun t h1 h2 => by simp only [posF] at h2; omega, fun h => by simp only [posF] at h; omega⟩
  | f + 1, k => by
    by_cases hc : (strAt l k).toList ≠ [] ∧ lessB (strAt l k) x = true
    · obtain ⟨h1, h2, h3, h4⟩ := posF_spec l x f (k + 1)
      rw [posF, if_pos hc]
      refine ⟨by omega, by omega, fun t a b => ?_, fun h => h4 (by omega)⟩
      by_cases hk : t = k
      · subst hk; exact hc
      · exact h3 t (by omega) b
    · rw [posF, if_neg hc]
      exact ⟨Nat.le_refl _, by omega, fun t a b => by omega, fun _ => hc⟩
theorem prefix_ex (P : Nat → Prop) : ∀ n, ∃ m, m ≤ n ∧ (∀ i, i < m → P i) ∧ (m = n ∨ ¬ P m)
  | 0 => ⟨0, Nat.le_refl _, fun i h => by omega, .inl rfl⟩
  | n + 1 => by
    obtain ⟨m, h1, h2, h3⟩ := prefix_ex P n
    rcases h3 with rfl | h3
    · by_cases hp : P m
      · exact ⟨m + 1, Nat.le_refl _, fun i hi => by
          by_cases h : i = m
          · subst h; exact hp
          · exact h2 i (by omega), .inl rfl⟩
      · exact ⟨m, by omega, h2, .inr hp⟩
    · exact ⟨m, by omega, h2, .inr h3⟩
def insAt {α : Type} (l : List α) (k : Nat) (x : α) : List α := (l.take k ++ x :: l.drop k).dropLast
/-- what stays when one is taken from each count -/
def lessTo (names : List ByteArray) (counts : List Int) : Nat → List (ByteArray × Int)
  | 0 => []
  | k + 1 => lessTo names counts k ++ if 1 < counts.getD k 0 then [(strAt names k, counts.getD k 0 - 1)] else []
theorem lessTo_len (names : List ByteArray) (counts : List Int) : ∀ k, (lessTo names counts k).length ≤ k
  | 0 => by simp [lessTo]
  | k + 1 => by
    have := lessTo_len names counts k
    rw [lessTo, List.length_append]
    split <;> simp <;> omega
def hless (h : Heavy) : Heavy :=
  ⟨(lessTo h.Names h.Counts h.Names.length).map (·.1) ++ List.replicate (h.Names.length - (lessTo h.Names h.Counts h.Names.length).length) ⟨#[]⟩,
   (lessTo h.Names h.Counts h.Names.length).map (·.2) ++ List.replicate (h.Names.length - (lessTo h.Names h.Counts h.Names.length).length) 0, h.Gone + 1, h.Total + 1⟩
def hadd (h : Heavy) (x : ByteArray) : Heavy :=
  if 0 ≤ idx h.Names x then ⟨h.Names, h.Counts.set (idx h.Names x).toNat (h.Counts.getD (idx h.Names x).toNat 0 + 1), h.Gone, h.Total + 1⟩
  else if (strAt h.Names (h.Names.length - 1)).toList ≠ [] then hless h
  else ⟨insAt h.Names (posN h.Names x) x, insAt h.Counts (posN h.Names x) 1, h.Gone, h.Total + 1⟩
section
variable {l : List ByteArray} {m : Nat} {x : ByteArray}
theorem HSort.of_ok {h : Heavy} (hk : heavyOk h = true) : ∃ m, HSort h.Names m := by
  obtain ⟨⟨_, _⟩, hcl, _, _, hs, _⟩ := heavyOk_iff.1 hk
  -- a name that is not free has one that is not free, and less, ahead of it
  have hstep : ∀ (i : Nat) (x : ByteArray), h.Names[i + 1]? = some x → x.toList ≠ [] → ∃ z, h.Names[i]? = some z ∧ z.toList ≠ [] ∧ lessB z x = true := fun i x hx hn => by
    have hi := (List.getElem?_eq_some_iff.1 hx).1
    have hz := List.getElem?_eq_getElem (show i < h.Names.length by omega)
    have hy := List.getElem?_eq_getElem (show i + 1 < h.Counts.length by omega)
    have h1 := hs (i + 1) hi
    rw [slotOk_of hx hy (by rw [Nat.add_sub_cancel]; exact hz)] at h1
    unfold slotP at h1
    rw [if_neg hn] at h1
    simp only [Bool.and_eq_true, Bool.or_eq_true, decide_eq_true_eq] at h1
    rcases h1.2 with h2 | h2
    · omega
    · exact ⟨_, hz, by simpa using h2.2, h2.1⟩
  have hdown : ∀ (d i : Nat) (x : ByteArray), h.Names[i + d]? = some x → x.toList ≠ [] → ∃ z, h.Names[i]? = some z ∧ z.toList ≠ [] ∧ (0 < d → lessB z x = true) := by
    intro d
    induction d with
    | zero => intro i x hx hn; exact ⟨x, hx, hn, fun h => by omega⟩
    | succ d ih =>
      intro i x hx hn
      obtain ⟨y, hy, hyn, hyx⟩ := hstep (i + d) x (by rw [← hx]; rfl) hn
      obtain ⟨z, hz, hzn, hzy⟩ := ih i y hy hyn
      refine ⟨z, hz, hzn, fun _ => ?_⟩
      rcases Nat.eq_zero_or_pos d with hd | hd
      · subst hd
        rw [Nat.add_zero, hz] at hy
        injection hy with hy
        subst hy
        exact hyx
      · exact bless_trans (hzy hd) hyx
  obtain ⟨m, h1, h2, h3⟩ := prefix_ex (fun i => ∀ x, h.Names[i]? = some x → x.toList ≠ []) h.Names.length
  refine ⟨m, h1, fun i x hi hx => h2 i hi x hx, fun i x hi hx => ?_, fun i j x y hij hj hx hy => ?_⟩
  · apply Classical.byContradiction
    intro hn
    have hil := (List.getElem?_eq_some_iff.1 hx).1
    rcases h3 with rfl | h3
    · omega
    · apply h3
      intro z hz
      obtain ⟨z', hz', hzn, _⟩ := hdown (i - m) m x (by rw [show m + (i - m) = i by omega]; exact hx) hn
      rw [hz] at hz'
      injection hz' with hz'
      rw [hz']; exact hzn
  · obtain ⟨z, hz, _, hzy⟩ := hdown (j - i) i y (by rw [show i + (j - i) = j by omega]; exact hy) (h2 j hj y hy)
    rw [hx] at hz
    injection hz with hz
    rw [hz]; exact hzy (by omega)
theorem HSort.at_ (h : HSort l m) {i : Nat} (hi : i < m) : ∃ y, l[i]? = some y ∧ strAt l i = y ∧ y.toList ≠ [] := by
  have hy := List.getElem?_eq_getElem (show i < l.length by have := h.le; omega)
  exact ⟨_, hy, strAt_of hy, h.used i _ hi hy⟩
/-- where the name belongs, among the used places -/
theorem HSort.pos (h : HSort l m) (x : ByteArray) : posN l x ≤ m ∧ (∀ t, t < posN l x → lessB (strAt l t) x = true) ∧ (∀ t, posN l x ≤ t → t < m → lessB (strAt l t) x = false) := by
  obtain ⟨_, h2, h3, h4⟩ := posF_spec l x l.length 0
  have hle : posN l x ≤ m := by
    rcases Nat.lt_or_ge m (posN l x) with hlt | hge
    · have hc := h3 m (Nat.zero_le _) hlt
      have hm : m < l.length := by unfold posN at hlt; omega
      exact absurd (h.free m _ (Nat.le_refl _) (List.getElem?_eq_getElem hm)) (by rw [← strAt_of (List.getElem?_eq_getElem hm)]; exact hc.1)
    · exact hge
  refine ⟨hle, fun t ht => (h3 t (Nat.zero_le _) ht).2, fun t ht htm => ?_⟩
  have hlen := h.le
  have hp : posN l x < m := by omega
  obtain ⟨y, hy, hys, hyn⟩ := h.at_ hp
  have hnp : lessB (strAt l (posN l x)) x = false := by
    have := h4 (by show posN l x < 0 + l.length; omega)
    change ¬ ((strAt l (posN l x)).toList ≠ [] ∧ lessB (strAt l (posN l x)) x = true) at this
    cases hb : lessB (strAt l (posN l x)) x
    · rfl
    · exact absurd ⟨by rw [hys]; exact hyn, hb⟩ this
  rcases Nat.eq_or_lt_of_le ht with rfl | hlt
  · exact hnp
  · obtain ⟨z, hz, hzs, _⟩ := h.at_ htm
    have hs := h.sort _ t y z hlt htm hy hz
    cases hb : lessB (strAt l t) x
    · rfl
    · rw [hzs] at hb
      rw [hys] at hnp
      have := bless_trans hs hb
      unfold lessB at hnp
      rw [hnp] at this
      cases this
theorem idxFrom_eq {v : ByteArray} {i : Nat} (hi : strAt l i = v) : ∀ (f k : Nat), k ≤ i → i < k + f → (∀ t, k ≤ t → t < i → strAt l t ≠ v) → idxFrom l v f k = i
  | 0, k, h1, h2, _ => by omega
  | f + 1, k, h1, h2, h3 => by
    rw [idxFrom]
    by_cases hk : strAt l k = v
    · rw [if_pos hk]
      by_cases hki : k = i
      · rw [hki]
      · exact absurd hk (h3 k (Nat.le_refl _) (by omega))
    · rw [if_neg hk]
      have : k ≠ i := fun e => hk (e ▸ hi)
      exact idxFrom_eq hi f (k + 1) (by omega) (by omega) fun t a b => h3 t (by omega) b
theorem idxFrom_none {v : ByteArray} : ∀ (f k : Nat), (∀ t, k ≤ t → t < k + f → strAt l t ≠ v) → idxFrom l v f k = -1
  | 0, _, _ => rfl
  | f + 1, k, h => by
    rw [idxFrom, if_neg (h k (Nat.le_refl _) (by omega))]
    exact idxFrom_none f (k + 1) fun t a b => h t (by omega) (by omega)
/-- what binary search finds -/
theorem HSort.found (h : HSort l m) {x : ByteArray} (hx : x.toList ≠ []) : (posN l x < m ∧ strAt l (posN l x) = x ∧ idx l x = posN l x) ∨ ((posN l x < m → strAt l (posN l x) ≠ x) ∧ idx l x = -1) := by
  obtain ⟨hp, hlt, hge⟩ := h.pos x
  have hlen := h.le
  have hne : ∀ {y : ByteArray}, lessB y x = true → y ≠ x := fun hy e => by
    subst e
    unfold lessB at hy
    rw [bless_irrefl] at hy
    cases hy
  by_cases hA : ∃ i, i < m ∧ strAt l i = x
  · obtain ⟨i, him, hix⟩ := hA
    have h1 : posN l x ≤ i := by
      rcases Nat.lt_or_ge i (posN l x) with h1 | h1
      · exact absurd hix (hne (hlt i h1))
      · exact h1
    have h2 : posN l x = i := by
      rcases Nat.eq_or_lt_of_le h1 with h2 | h2
      · exact h2
      · exfalso
        obtain ⟨y, hy, hys, _⟩ := h.at_ (show posN l x < m by omega)
        obtain ⟨z, hz, hzs, _⟩ := h.at_ him
        have h3 := h.sort _ i y z h2 him hy hz
        have h4 := hge (posN l x) (Nat.le_refl _) (by omega)
        rw [hys] at h4
        rw [← hzs, hix] at h3
        rw [h3] at h4
        cases h4
    refine .inl ⟨by omega, by rw [h2]; exact hix, ?_⟩
    rw [h2]
    exact idxFrom_eq hix _ 0 (Nat.zero_le _) (by omega) fun t _ b => hne (hlt t (by omega))
  · refine .inr ⟨fun h1 e => hA ⟨_, h1, e⟩, idxFrom_none _ 0 fun t _ b e => ?_⟩
    rcases Nat.lt_or_ge t m with h1 | h1
    · exact hA ⟨t, h1, e⟩
    · apply hx
      have hy := List.getElem?_eq_getElem (show t < l.length by omega)
      rw [← e, strAt_of hy]
      exact h.free t _ h1 hy
theorem HSort.full (h : HSort l m) (h0 : 0 < l.length) : (strAt l (l.length - 1)).toList ≠ [] ↔ m = l.length := by
  have hy := List.getElem?_eq_getElem (show l.length - 1 < l.length by omega)
  have hlen := h.le
  rw [strAt_of hy]
  constructor
  · intro hn
    apply Classical.byContradiction
    intro hm
    exact hn (h.free _ _ (by omega) hy)
  · intro hm
    exact h.used _ _ (by omega) hy
/-- where the first free place is -/
theorem HSort.idx_free (h : HSort l m) : idx l ⟨#[]⟩ = if m < l.length then (m : Int) else -1 := by
  have hne : ∀ t, t < m → strAt l t ≠ ⟨#[]⟩ := fun t ht e => by
    obtain ⟨y, _, hys, hyn⟩ := h.at_ ht
    rw [hys] at e
    subst e
    exact hyn (by rw [Lib.toList_data])
  split
  · rename_i hm
    have hy := List.getElem?_eq_getElem hm
    have he : strAt l m = ⟨#[]⟩ := by
      rw [strAt_of hy]
      exact ba_inj (by rw [h.free m _ (Nat.le_refl _) hy, Lib.toList_data])
    exact idxFrom_eq he _ 0 (Nat.zero_le _) (by omega) fun t _ b => hne t b
  · rename_i hm
    have hlen := h.le
    exact idxFrom_none _ 0 fun t _ b => hne t (by omega)
theorem insAt_len {β : Type} (l : List β) (k : Nat) (x : β) (hk : k ≤ l.length) : (insAt l k x).length = l.length := by
  unfold insAt
  rw [List.length_dropLast, List.length_append, List.length_cons, List.length_take, List.length_drop]
  omega
theorem insAt_get {β : Type} (l : List β) (k : Nat) (x : β) (hk : k ≤ l.length) (j : Nat) : (insAt l k x)[j]? = if l.length ≤ j then none else if j < k then l[j]? else if j = k then some x else l[j - 1]? := by
  unfold insAt
  rw [List.getElem?_dropLast]
  have hl : (l.take k ++ x :: l.drop k).length - 1 = l.length := by
    rw [List.length_append, List.length_cons, List.length_take, List.length_drop]; omega
  rw [hl]
  by_cases h1 : l.length ≤ j
  · rw [if_pos h1, if_neg (by omega)]
  · rw [if_neg h1, if_pos (by omega)]
    by_cases h2 : j < k
    · rw [if_pos h2, List.getElem?_append_left (by rw [List.length_take]; omega), List.getElem?_take, if_pos h2]
    · rw [if_neg h2, List.getElem?_append_right (by rw [List.length_take]; omega), List.length_take]
      by_cases h3 : j = k
      · rw [if_pos h3, h3, show k - min k l.length = 0 by omega]; rfl
      · rw [if_neg h3, show j - min k l.length = (j - 1 - k) + 1 by omega, List.getElem?_cons_succ, List.getElem?_drop]
        congr 1; omega
theorem insAt_map {β γ : Type} (f : β → γ) (l : List β) (k : Nat) (x : β) : (insAt l k x).map f = insAt (l.map f) k (f x) := by
  unfold insAt
  rw [List.map_dropLast, List.map_append, List.map_cons, List.map_take, List.map_drop]
theorem insAt_mem {β : Type} {l : List β} {k : Nat} {x y : β} (h : y ∈ insAt l k x) : y ∈ l ∨ y = x := by
  unfold insAt at h
  have h := List.dropLast_subset _ h
  rcases List.mem_append.1 h with h | h
  · exact .inl (List.mem_of_mem_take h)
  · rcases List.mem_cons.1 h with h | h
    · exact .inr h
    · exact .inl (List.mem_of_mem_drop h)
/-- all behind place i moved on by one -/
def shf {β : Type} (l : List β) (i : Nat) : List β := l.take (i + 1) ++ (l.drop i).dropLast
theorem shf_get {β : Type} (l : List β) (i : Nat) (hi : i < l.length) (j : Nat) : (shf l i)[j]? = if l.length ≤ j then none else if j ≤ i then l[j]? else l[j - 1]? := by
  unfold shf
  by_cases h1 : j ≤ i
  · rw [if_neg (by omega), if_pos h1, List.getElem?_append_left (by rw [List.length_take]; omega), List.getElem?_take, if_pos (by omega)]
  · rw [List.getElem?_append_right (by rw [List.length_take]; omega), List.length_take, List.getElem?_dropLast, List.length_drop]
    by_cases h2 : l.length ≤ j
    · rw [if_pos h2, if_neg (by omega)]
    · rw [if_neg h2, if_neg h1, if_pos (by omega), List.getElem?_drop]
      congr 1; omega
theorem shf_len {β : Type} (l : List β) (i : Nat) (hi : i < l.length) : (shf l i).length = l.length := by
  unfold shf
  rw [List.length_append, List.length_dropLast, List.length_take, List.length_drop]; omega
theorem shf_start {β : Type} (l : List β) (h0 : 0 < l.length) : shf l (l.length - 1) = l := by
  apply List.ext_getElem?
  intro j
  rw [shf_get _ _ (by omega)]
  by_cases h1 : l.length ≤ j
  · rw [if_pos h1, List.getElem?_eq_none h1]
  · rw [if_neg h1, if_pos (by omega)]
theorem shf_prev {β : Type} {l : List β} {i : Nat} (hi : i < l.length) (h0 : 0 < i) : (shf l i)[i - 1]? = l[i - 1]? := by
  rw [shf_get _ _ hi, if_neg (by omega), if_pos (by omega)]
theorem shf_next {β : Type} {l : List β} {i : Nat} {y : β} (hi : i < l.length) (h0 : 0 < i) (hy : l[i - 1]? = some y) : (shf l i).set i y = shf l (i - 1) := by
  apply List.ext_getElem?
  intro j
  by_cases hj : i = j
  · subst hj
    rw [List.getElem?_set_self (by rw [shf_len _ _ hi]; exact hi), shf_get _ _ (by omega), if_neg (by omega), if_neg (by omega), hy]
  · rw [List.getElem?_set_ne hj, shf_get _ _ hi, shf_get _ _ (by omega)]
    by_cases h1 : l.length ≤ j
    · rw [if_pos h1, if_pos h1]
    · rw [if_neg h1, if_neg h1]
      by_cases h2 : j ≤ i - 1
      · rw [if_pos h2, if_pos (by omega)]
      · rw [if_neg h2, if_neg (by omega)]
theorem shf_done {β : Type} {l : List β} {k : Nat} {x : β} (hk : k < l.length) : (shf l k).set k x = insAt l k x := by
  apply List.ext_getElem?
  intro j
  rw [insAt_get _ _ _ (by omega)]
  by_cases hj : k = j
  · subst hj
    rw [List.getElem?_set_self (by rw [shf_len _ _ hk]; exact hk), if_neg (by omega), if_neg (by omega), if_pos rfl]
  · rw [List.getElem?_set_ne hj, shf_get _ _ hk]
    by_cases h1 : l.length ≤ j
    · rw [if_pos h1, if_pos h1]
    · rw [if_neg h1, if_neg h1]
      by_cases h2 : j < k
      · rw [if_pos h2, if_pos (by omega)]
      · rw [if_neg h2, if_neg (by omega), if_neg (by omega)]
/-- what holds of a summary while it is fed -/
structure HIn (h : Heavy) (b : Int) : Prop where
  pl : 1 ≤ h.Names.length ∧ h.Names.length ≤ 6
  cl : h.Counts.length = h.Names.length
  so : ∃ m, HSort h.Names m
  cb : ∀ (i : Nat) y, h.Counts[i]? = some y → 0 ≤ y ∧ y ≤ b
  gb : 0 ≤ h.Gone ∧ h.Gone ≤ b
  tb : 0 ≤ h.Total ∧ h.Total ≤ b
theorem HIn.of_ok {h : Heavy} (hk : heavyOk h = true) : HIn h 1000000 := by
  have hs := HSort.of_ok hk
  obtain ⟨h1, h2, h3, h4, h5, _⟩ := heavyOk_iff.1 hk
  refine ⟨by omega, h2, hs, fun i y hy => ?_, by omega, by omega⟩
  have hi := (List.getElem?_eq_some_iff.1 hy).1
  have := slotP_bd (h5 i (by omega))
  rw [getD_of hy] at this
  omega
theorem HSort.ins {l : List ByteArray} {m : Nat} {x : ByteArray} (h : HSort l m) (hm : m < l.length) (hx : x.toList ≠ []) (hn : posN l x < m → strAt l (posN l x) ≠ x) : HSort (insAt l (posN l x) x) (m + 1) := by
  obtain ⟨hp, hlt, hge⟩ := h.pos x
  have hg := insAt_get l (posN l x) x (by omega)
  refine ⟨by rw [insAt_len _ _ _ (by omega)]; omega, fun i y hi hy => ?_, fun i y hi hy => ?_, fun i j y z hij hj hy hz => ?_⟩
  · rw [hg] at hy
    split at hy
    · cases hy
    · split at hy
      · exact h.used i y (by omega) hy
      · split at hy
        · injection hy with hy; subst hy; exact hx
        · exact h.used (i - 1) y (by omega) hy
  · rw [hg] at hy
    split at hy
    · cases hy
    · rw [if_neg (by omega), if_neg (by omega)] at hy
      exact h.free (i - 1) y (by omega) hy
  · rw [hg] at hy hz
    rw [if_neg (by omega)] at hy hz
    by_cases h1 : j < posN l x
    · rw [if_pos (by omega)] at hy
      rw [if_pos h1] at hz
      exact h.sort i j y z hij (by omega) hy hz
    · rw [if_neg h1] at hz
      by_cases h2 : j = posN l x
      · rw [if_pos h2] at hz
        injection hz with hz
        rw [if_pos (by omega)] at hy
        have := hlt i (by omega)
        rw [strAt_of hy] at this
        rw [← hz]; exact this
      · rw [if_neg h2] at hz
        by_cases h3 : i < posN l x
        · rw [if_pos h3] at hy
          exact h.sort i (j - 1) y z (by omega) (by omega) hy hz
        · rw [if_neg h3] at hy
          by_cases h4 : i = posN l x
          · rw [if_pos h4] at hy
            injection hy with hy
            subst hy
            have h5 := hge (j - 1) (by omega) (by omega)
            rw [strAt_of hz] at h5
            have h6 : z ≠ x := fun e => by
              rcases Nat.eq_or_lt_of_le (show posN l x ≤ j - 1 by omega) with h7 | h7
              · exact hn (by omega) (by rw [h7, strAt_of hz]; exact e)
              · obtain ⟨u, hu, hus, _⟩ := h.at_ (show posN l x < m by omega)
                have h8 := h.sort _ (j - 1) u z h7 (by omega) hu hz
                have h9 := hge (posN l x) (Nat.le_refl _) (by omega)
                rw [hus] at h9
                rw [e, h9] at h8
                cases h8
            rcases bless_total (fun e => h6 (ba_inj e)) with h7 | h7
            · unfold lessB at h5; rw [h7] at h5; cases h5
            · exact h7
          · rw [if_neg h4] at hy
            exact h.sort (i - 1) (j - 1) y z (by omega) (by omega) hy hz
theorem lessTo_sub (names : List ByteArray) (counts : List Int) : ∀ k, k ≤ names.length → ((lessTo names counts k).map (·.1)).Sublist (names.take k)
  | 0, _ => by simp [lessTo]
  | k + 1, hk => by
    have ih := lessTo_sub names counts k (by omega)
    rw [lessTo, List.map_append, List.take_succ_eq_append_getElem (by omega)]
    refine ih.append ?_
    split
    · rw [List.map_cons, List.map_nil, strAt_of (List.getElem?_eq_getElem (show k < names.length by omega))]
      exact List.Sublist.refl _
    · exact List.nil_sublist _
theorem lessTo_bd {names : List ByteArray} {counts : List Int} {b : Int} (hb : ∀ (i : Nat) y, counts[i]? = some y → 0 ≤ y ∧ y ≤ b) : ∀ k, ∀ p, p ∈ lessTo names counts k → 0 ≤ p.2 ∧ p.2 ≤ b
  | 0, p, hp => by simp [lessTo] at hp
  | k + 1, p, hp => by
    rw [lessTo] at hp
    rcases List.mem_append.1 hp with hp | hp
    · exact lessTo_bd hb k p hp
    · split at hp
      · rename_i h1
        rw [List.mem_singleton.1 hp]
        show 0 ≤ counts.getD k 0 - 1 ∧ counts.getD k 0 - 1 ≤ b
        cases hc : counts[k]? with
        | none => rw [List.getD_eq_getElem?_getD, hc] at h1; simp at h1
        | some y => rw [getD_of hc] at h1 ⊢; have := hb k y hc; omega
      · cases hp
theorem hless_len (h : Heavy) : (hless h).Names.length = h.Names.length ∧ (hless h).Counts.length = h.Names.length := by
  have := lessTo_len h.Names h.Counts h.Names.length
  unfold hless
  simp only [List.length_append, List.length_map, List.length_replicate]
  omega
theorem hless_in {h : Heavy} {b : Int} (hi : HIn h b) (hf : HSort h.Names h.Names.length) : HIn (hless h) (b + 1) := by
  have hl := lessTo_len h.Names h.Counts h.Names.length
  have hlen := hless_len h
  have h1 := hi.pl; have h2 := hi.gb; have h3 := hi.tb
  refine ⟨by rw [hlen.1]; exact hi.pl, by rw [hlen.1]; exact hlen.2, ⟨(lessTo h.Names h.Counts h.Names.length).length, ?_⟩, fun i y hy => ?_, ?_, ?_⟩
  · have hsub := lessTo_sub h.Names h.Counts h.Names.length (Nat.le_refl _)
    rw [List.take_length] at hsub
    have hpw : h.Names.Pairwise (fun x y => lessB x y = true) := by
      rw [List.pairwise_iff_getElem]
      intro i j hi' hj hij
      exact hf.sort i j _ _ hij hj (List.getElem?_eq_getElem hi') (List.getElem?_eq_getElem hj)
    have hpl := hpw.sublist hsub
    have hne : ∀ y ∈ (lessTo h.Names h.Counts h.Names.length).map (·.1), y.toList ≠ [] := fun y hy => by
      have hy := hsub.subset hy
      obtain ⟨i, hi', rfl⟩ := List.mem_iff_getElem.1 hy
      exact hf.used i _ hi' (List.getElem?_eq_getElem hi')
    have hml : ((lessTo h.Names h.Counts h.Names.length).map (·.1)).length = (lessTo h.Names h.Counts h.Names.length).length := by simp
    refine ⟨by rw [hlen.1]; exact hl, fun i y hi' hy => ?_, fun i y hi' hy => ?_, fun i j y z hij hj hy hz => ?_⟩
    · unfold hless at hy
      dsimp only at hy
      rw [List.getElem?_append_left (by rw [hml]; exact hi')] at hy
      exact hne y (List.mem_of_getElem? hy)
    · unfold hless at hy
      dsimp only at hy
      rw [List.getElem?_append_right (by rw [hml]; exact hi'), List.getElem?_replicate] at hy
      split at hy
      · injection hy with hy
        rw [← hy, Lib.toList_data]
      · cases hy
    · unfold hless at hy hz
      dsimp only at hy hz
      rw [List.getElem?_append_left (by rw [hml]; omega)] at hy hz
      obtain ⟨a1, a2⟩ := List.getElem?_eq_some_iff.1 hy
      obtain ⟨b1, b2⟩ := List.getElem?_eq_some_iff.1 hz
      rw [← a2, ← b2]
      exact List.pairwise_iff_getElem.1 hpl i j a1 b1 hij
  · unfold hless at hy
    dsimp only at hy
    have hm := List.mem_of_getElem? hy
    rcases List.mem_append.1 hm with hm | hm
    · obtain ⟨p, hp, rfl⟩ := List.mem_map.1 hm
      have := lessTo_bd hi.cb _ p hp
      omega
    · rw [(List.mem_replicate.1 hm).2]; omega
  · show 0 ≤ h.Gone + 1 ∧ h.Gone + 1 ≤ b + 1; omega
  · show 0 ≤ h.Total + 1 ∧ h.Total + 1 ≤ b + 1; omega
theorem hadd_in {h : Heavy} {b : Int} {x : ByteArray} (hi : HIn h b) (hx : x.toList ≠ []) : HIn (hadd h x) (b + 1) := by
  obtain ⟨m, hs⟩ := hi.so
  have h1 := hi.pl; have h2 := hi.gb; have h3 := hi.tb
  have hlen := hs.le
  unfold hadd
  by_cases hf : 0 ≤ idx h.Names x
  · rw [if_pos hf]
    refine ⟨hi.pl, by rw [List.length_set]; exact hi.cl, ⟨m, hs⟩, fun i y hy => ?_, by show 0 ≤ h.Gone ∧ h.Gone ≤ b + 1; omega, by show 0 ≤ h.Total + 1 ∧ h.Total + 1 ≤ b + 1; omega⟩
    dsimp only at hy
    have hbd := idx_bd (l := h.Names) (v := x)
    by_cases he : (idx h.Names x).toNat = i
    · subst he
      rw [List.getElem?_set_self (by rw [hi.cl]; omega)] at hy
      injection hy with hy
      obtain ⟨z, hz⟩ : ∃ z, h.Counts[(idx h.Names x).toNat]? = some z := ⟨_, List.getElem?_eq_getElem (by rw [hi.cl]; omega)⟩
      rw [getD_of hz] at hy
      have := hi.cb _ z hz
      omega
    · rw [List.getElem?_set_ne he] at hy
      have := hi.cb _ y hy
      omega
  · rw [if_neg hf]
    by_cases hu : (strAt h.Names (h.Names.length - 1)).toList ≠ []
    · rw [if_pos hu]
      have hm := (hs.full (by omega)).1 hu
      subst hm
      exact hless_in hi hs
    · rw [if_neg hu]
      have hm : m < h.Names.length := by
        rcases Nat.lt_or_ge m h.Names.length with h4 | h4
        · exact h4
        · exact absurd ((hs.full (by omega)).2 (by omega)) hu
      have hp := (hs.pos x).1
      have hn : posN h.Names x < m → strAt h.Names (posN h.Names x) ≠ x := by
        rcases hs.found hx with h4 | h4
        · exact absurd (by rw [h4.2.2]; omega) hf
        · exact h4.1
      refine ⟨by show 1 ≤ (insAt _ _ _).length ∧ _; rw [insAt_len _ _ _ (by omega)]; exact hi.pl, by show (insAt _ _ _).length = (insAt _ _ _).length; rw [insAt_len _ _ _ (by rw [hi.cl]; omega), insAt_len _ _ _ (by omega)]; exact hi.cl, ⟨m + 1, hs.ins hm hx hn⟩, fun i y hy => ?_, by show 0 ≤ h.Gone ∧ h.Gone ≤ b + 1; omega, by show 0 ≤ h.Total + 1 ∧ h.Total + 1 ≤ b + 1; omega⟩
      rcases insAt_mem (List.mem_of_getElem? hy) with h4 | h4
      · obtain ⟨j, hj⟩ := List.mem_iff_getElem?.1 h4
        have := hi.cb j y hj
        omega
      · omega
def addHeavy (h : Heavy) (x : ByteArray) : Heavy × Bool :=
  if (heavyOk h && word false x.data.toList) = true then (if heavyOk (hadd h x) = true then (hadd h x, true) else (⟨[], [], 0, 0⟩, false)) else (⟨[], [], 0, 0⟩, false)
/-- names fed one after the other; false where one is none -/
def feedFrom : Heavy → List ByteArray → Heavy × Bool
  | h, [] => (h, true)
  | h, x :: l => if word false x.data.toList = true then feedFrom (hadd h x) l else (⟨[], [], 0, 0⟩, false)
def hv0 (n : Nat) : Heavy := ⟨List.replicate n ⟨#[]⟩, List.replicate n 0, 0, 0⟩
def feedHeavy (n : Int) (l : List ByteArray) : Heavy × Bool :=
  if isIn n 1 6 = true ∧ l.length ≤ 200 then feedFrom (hv0 n.toNat) l else (⟨[], [], 0, 0⟩, false)
theorem hv0_in {n : Nat} (h1 : 1 ≤ n) (h6 : n ≤ 6) : HIn (hv0 n) 0 := by
  refine ⟨by unfold hv0; simp; omega, by unfold hv0; simp, ⟨0, ⟨Nat.zero_le _, fun i x h => by omega, fun i x _ hx => ?_, fun i j x y _ h => by omega⟩⟩, fun i y hy => ?_, by unfold hv0; simp, by unfold hv0; simp⟩
  · unfold hv0 at hx
    dsimp only at hx
    rw [List.getElem?_replicate] at hx
    split at hx
    · injection hx with hx; rw [← hx, Lib.toList_data]
    · cases hx
  · unfold hv0 at hy
    dsimp only at hy
    rw [List.getElem?_replicate] at hy
    split at hy
    · injection hy with hy; omega
    · cases hy
end
end Pl
end Go.Proofs.Ytnppcdiicnofpaa

/-
  Plain labels and totals. No program in sight. No conditions.
-/
namespace Go.Proofs.Ytnppcdiicnofpaa
namespace Pl
def labAt (l : List Label) (k : Nat) : Label := l.getD k ⟨⟨#[]⟩, ⟨#[]⟩⟩
theorem labAt_of {l : List Label} {k : Nat} {x : Label} (h : l[k]? = some x) : labAt l k = x := by unfold labAt; rw [List.getD_eq_getElem?_getD, h]; rfl
def labelOk (x : Label) : Bool := word false x.Name.data.toList && word true x.Value.data.toList
def labQ (k : Nat) (x z : Label) : Bool := labelOk x && (decide (k = 0) || lessB z.Name x.Name)
def labP (l : List Label) (k : Nat) : Bool := labQ k (labAt l k) (labAt l (k - 1))
def labelsOk (l : List Label) : Bool := allB l.length (labP l) && decide (l.length ≤ 6)
def labTxt (x : Label) : List UInt8 := x.Name.data.toList ++ 61 :: x.Value.data.toList
def labBody (l : List Label) : List UInt8 := Lib.join (l.map labTxt) [44]
def labelsText (l : List Label) : ByteArray := ⟨(123 :: (labBody l ++ [125])).toArray⟩
theorem join_snoc (xs : List (List UInt8)) (y sep : List UInt8) : Lib.join (xs ++ [y]) sep = if xs = [] then y else Lib.join xs sep ++ (sep ++ y) := by
  cases xs with
  | nil => rw [if_pos rfl, List.nil_append, Lib.join_one]
  | cons z r =>
    rw [if_neg (by simp), List.cons_append, Lib.join_cons, Lib.join_cons]
    unfold Lib.joinTail
    simp
theorem labBody_next {l : List Label} {k : Nat} {x : Label} (h : l[k]? = some x) : labBody (l.take (k + 1)) = if k = 0 then labTxt x else labBody (l.take k) ++ (44 :: labTxt x) := by
  obtain ⟨hk, hx⟩ := List.getElem?_eq_some_iff.1 h
  unfold labBody
  rw [List.take_succ_eq_append_getElem hk, hx, List.map_append, List.map_cons, List.map_nil, join_snoc]
  by_cases h0 : k = 0
  · subst h0; rfl
  · rw [if_neg h0, if_neg (by
      intro e
      have := congrArg List.length e
      rw [List.length_map, List.length_take] at this
      change min k l.length = 0 at this
      omega)]
    rfl
theorem labelsOk_at {l : List Label} (h : labelsOk l = true) {k : Nat} {x : Label} (hx : l[k]? = some x) : labelOk x = true := by
  unfold labelsOk at h
  rw [Bool.and_eq_true] at h
  have h1 := allB_iff.1 h.1 k (List.getElem?_eq_some_iff.1 hx).1
  unfold labP labQ at h1
  rw [labAt_of hx, Bool.and_eq_true] at h1
  exact h1.1
theorem labelsOk_len {l : List Label} (h : labelsOk l = true) : l.length ≤ 6 := by
  unfold labelsOk at h
  rw [Bool.and_eq_true] at h
  simpa using h.2
theorem labTxt_len {x : Label} (h : labelOk x = true) : (labTxt x).length ≤ 17 := by
  unfold labelOk at h
  rw [Bool.and_eq_true] at h
  have h1 := word_len h.1
  have h2 := word_len h.2
  unfold labTxt
  rw [List.length_append, List.length_cons]
  omega
theorem labBody_take_len {l : List Label} (h : labelsOk l = true) : ∀ k : Nat, k ≤ l.length → (labBody (l.take k)).length ≤ 18 * k
  | 0, _ => by simp [labBody, Lib.join_nil]
  | k + 1, hk => by
    have ih := labBody_take_len h k (by omega)
    have hx : l[k]? = some l[k] := List.getElem?_eq_getElem (by omega)
    have h1 := labTxt_len (labelsOk_at h hx)
    rw [labBody_next hx]
    split
    · omega
    · rw [List.length_append, List.length_cons]; omega
theorem labBody_len {l : List Label} (h : labelsOk l = true) : (labBody l).length ≤ 108 := by
  have h1 := labBody_take_len h l.length (Nat.le_refl _)
  have h2 := labelsOk_len h
  rw [List.take_of_length_le (Nat.le_refl _)] at h1
  omega
def totAt (l : List Total) (k : Nat) : Total := l.getD k ⟨[], 0, 0, 0, 0⟩
theorem totAt_of {l : List Total} {k : Nat} {x : Total} (h : l[k]? = some x) : totAt l k = x := by unfold totAt; rw [List.getD_eq_getElem?_getD, h]; rfl
def totOk (x : Total) : Bool := labelsOk x.Labels && isIn x.Count 1 1000 && isIn x.Sum (-1000000000) 1000000000 && isIn x.Least (-1000000) x.Most && decide (x.Most ≤ 1000000)
def totQ (k : Nat) (x z : Total) : Bool := totOk x && (decide (k = 0) || lessB (labelsText z.Labels) (labelsText x.Labels))
def totP (l : List Total) (k : Nat) : Bool := totQ k (totAt l k) (totAt l (k - 1))
def totalsOk (l : List Total) : Bool := allB l.length (totP l) && decide (l.length ≤ 40)
def totVal (x : Total) (op : Int) : Int := if op = 2 then x.Count else if op = 3 then x.Least else if op = 4 then x.Most else x.Sum
def totalValues (l : List Total) (op : Int) : List Int := l.map fun x => totVal x op
def valuesOf (l : List Total) (op : Int) : List Int × Bool := if (totalsOk l && isIn op 1 4) = true then (totalValues l op, true) else ([], false)
theorem totalsOk_at {l : List Total} (h : totalsOk l = true) {k : Nat} {x : Total} (hx : l[k]? = some x) : totOk x = true := by
  unfold totalsOk at h
  rw [Bool.and_eq_true] at h
  have h1 := allB_iff.1 h.1 k (List.getElem?_eq_some_iff.1 hx).1
  unfold totP totQ at h1
  rw [totAt_of hx, Bool.and_eq_true] at h1
  exact h1.1
theorem totalsOk_len {l : List Total} (h : totalsOk l = true) : l.length ≤ 40 := by
  unfold totalsOk at h
  rw [Bool.and_eq_true] at h
  simpa using h.2
theorem totOk_lab {x : Total} (h : totOk x = true) : labelsOk x.Labels = true := by
  unfold totOk at h
  simp only [Bool.and_eq_true] at h
  exact h.1.1.1.1
theorem labelsText_data (l : List Label) : (labelsText l).data.toList = 123 :: (labBody l ++ [125]) := rfl
theorem ba_ext {a b : ByteArray} (h : a.data.toList = b.data.toList) : a = b := by
  cases a; cases b; congr 1; exact Array.toList_inj.1 h
end Pl
end Go.Proofs.Ytnppcdiicnofpaa

/-
  slices.Insert with one element, and append of zero values, on slices that the call owns and whose elements are one cell each and lead nowhere. No program in sight. No conditions.
-/
namespace Go.Proofs.Ytnppcdiicnofpaa
open Go.RowKit
namespace Mm
theorem flat_sub {β γ : Type} (f : β → List γ) {us ts : List β} (h : us.Sublist ts) : (us.flatMap f).Sublist (ts.flatMap f) := by
  induction h with
  | slnil => exact List.Sublist.refl _
  | cons a _ ih => rw [List.flatMap_cons]; exact ih.trans (List.sublist_append_right _ _)
  | cons_cons a _ ih => rw [List.flatMap_cons, List.flatMap_cons]; exact (List.Sublist.refl _).append ih
/-- fewer things -/
theorem SepF.sub {F : List Nat} {w0 wr : World} {ts us : List Thing} (h : SepF F w0 wr ts) (hs : us.Sublist ts) : SepF F w0 wr us :=
  ⟨h.chg, h.nd.sublist (flat_sub (·.fp) hs), fun b hb => h.new b ((flat_sub (·.fp) hs).subset hb), fun u hu => h.hold u (hs.subset hu)⟩
/-- elements of one cell that lead nowhere -/
structure Flat1 {α : Type} (E : Rep α) (val : α → Value) : Prop where
  size : E.size = 1
  one : ∀ x, (val x).oneCell' = true
  inv : ∀ {w x cs fx}, E.own w x cs fx → cs = [val x] ∧ fx = [] ∧ ∀ w', E.own w' x [val x] []
theorem flat1_int : Flat1 int (fun x => .int .i64 x) := ⟨rfl, fun _ => rfl, fun h => ⟨h.1, h.2.2, fun _ => ⟨rfl, h.2.1, rfl⟩⟩⟩
theorem flat1_str : Flat1 str (fun x => .string x) := ⟨rfl, fun _ => rfl, fun h => ⟨h.1, h.2.2, fun _ => ⟨rfl, h.2.1, rfl⟩⟩⟩
theorem fm_val {α : Type} (val : α → Value) : ∀ xs : List α, xs.flatMap (fun x => [val x]) = xs.map val
  | [] => rfl
  | a :: t => by rw [List.flatMap_cons, fm_val val t]; rfl
theorem shape_blk {w : World} {g : Nat} {t : TypeId} {cs : List Value} (h : Blk w g t cs) : w.shape? g = some (t, cs.length) := by
  unfold Blk at h
  unfold World.shape?
  rw [h]
  simp
section
variable {α : Type} {E : Rep α} {val : α → Value} {e : TypeId} {w w' : World} {xs : List α} {v : Value} {fp : List Nat} {g n c : Nat}
theorem Flat1.owns (hF : Flat1 E val) (h : SlOwn E e w xs v fp) : w.ownsRow 0 e 1 v xs.length (xs.map val) ∧ fp = v.ownBlock.toList ∧ ∀ x, x ∈ xs → ∀ w', E.own w' x [val x] [] := by
  obtain ⟨es, he, ho, rfl⟩ := h
  have h1 : es = xs.map fun x => ([val x], ([] : List Nat)) := by
    apply List.ext_getElem?
    intro i
    rw [List.getElem?_map]
    rcases Nat.lt_or_ge i xs.length with hi | hi
    · have hx := List.getElem?_eq_getElem hi
      have hy := List.getElem?_eq_getElem (show i < es.length by rw [he.1]; exact hi)
      have h2 := hF.inv (he.2 i _ _ hx hy)
      rw [hx, hy]
      exact congrArg some (Prod.ext h2.1 h2.2.1)
    · rw [List.getElem?_eq_none hi, List.getElem?_eq_none (by rw [he.1]; exact hi)]
      rfl
  have h3 : (xs.map fun x => ([val x], ([] : List Nat))).flatMap (·.1) = xs.map val := by rw [List.flatMap_map]; exact fm_val val xs
  have h4 : (xs.map fun x => ([val x], ([] : List Nat))).flatMap (·.2) = [] := by simp [List.flatMap_map]
  refine ⟨?_, by rw [h1, h4]; simp, fun x hx w' => ?_⟩
  · rw [h1, h3, hF.size] at ho
    exact ho
  · obtain ⟨i, hi, rfl⟩ := List.mem_iff_getElem.1 hx
    exact (hF.inv (he.2 i _ _ (List.getElem?_eq_getElem hi) (List.getElem?_eq_getElem (show i < es.length by rw [he.1]; exact hi)))).2.2 w'
theorem Flat1.row (hF : Flat1 E val) (ho : w.ownsRow 0 e 1 v xs.length (xs.map val)) (hE : ∀ x, x ∈ xs → E.own w x [val x] []) : SlOwn E e w xs v v.ownBlock.toList :=
  SlOwn.of_row (enc := fun x => [val x]) (by
    rw [hF.size, show xs.flatMap (fun x => [val x]) = xs.map val from fm_val val xs]
    exact ho) hE rfl
theorem Flat1.blk (hF : Flat1 E val) (h : SlOwn E e w xs (.slice (some ⟨g, 0, none⟩) n c) fp) : ∃ cur, Blk w g e cur ∧ cur.length = c ∧ cur.take n = xs.map val ∧ n = xs.length ∧ n ≤ c ∧ c ≤ maxLen ∧ fp = [g] := by
  obtain ⟨h1, h2, _⟩ := hF.owns h
  rcases h1.2 with ⟨h3, _⟩ | ⟨g', cap, cur, h3, _, hg, hnc, hcm, hcs, htake⟩
  · simp at h3
  · simp only [Value.slice.injEq, Option.some.injEq, Addr.mk.injEq, and_true] at h3
    obtain ⟨rfl, rfl, rfl⟩ := h3
    refine ⟨cur.toList, by unfold Blk; rw [Array.toArray_toList]; exact hg, by simpa using hcs, by simpa using htake, rfl, hnc, hcm, by rw [h2]; simp [Value.ownBlock]⟩
theorem Flat1.of_blk (hF : Flat1 E val) {cur : List Value} (h : Blk w g e cur) (hl : cur.length = c) (ht : cur.take n = xs.map val) (hn : xs.length = n) (hnc : n ≤ c) (hc : c ≤ maxLen) (hE : ∀ x, x ∈ xs → E.own w x [val x] []) : SlOwn E e w xs (.slice (some ⟨g, 0, none⟩) n c) [g] := by
  subst hn
  exact hF.row ⟨by simp, .inr ⟨g, c, cur.toArray, rfl, Nat.zero_le _, h, hnc, hc, by simpa using hl, by simpa using ht⟩⟩ hE
theorem Flat1.cell (hF : Flat1 E val) (h : SlOwn E e w xs (.slice (some ⟨g, 0, none⟩) n c) fp) {k : Nat} {x : α} (hk : xs[k]? = some x) : w.cell? ⟨g, k, none⟩ = some (val x) := by
  obtain ⟨cur, hb, hcl, ht, hn, hnc, _⟩ := hF.blk h
  have hkn := (List.getElem?_eq_some_iff.1 hk).1
  refine hb.cell ?_
  have h1 : (cur.take n)[k]? = some (val x) := by rw [ht, List.getElem?_map, hk]; rfl
  rw [List.getElem?_take, if_pos (by omega)] at h1
  exact h1
theorem setCells_blk : ∀ (vs : List Value) (w : World) (o : Nat) (cs : List Value), Blk w g e cs → Blk (w.setCells g o vs) g e (setList cs o vs)
  | [], _, _, _, h => h
  | v :: r, w, o, cs, h => setCells_blk r _ (o + 1) _ (h.set_ o v)
theorem setCells_chg (g : Nat) : ∀ (vs : List Value) (w : World) (o : Nat), Chg [g] w (w.setCells g o vs)
  | [], w, _ => Chg.refl _ _
  | v :: r, w, o => ((Chg.refl [g] w).setCell (p := ⟨g, o, none⟩) (by simp) v).trans (setCells_chg g r _ (o + 1))
theorem ins_cells {cur ys : List Value} {u : Value} {i : Nat} (ht : cur.take n = ys) (hn : ys.length = n) (hi : i < n) (hroom : n + 1 ≤ cur.length) :
    (setList (setList cur (i + 1) (ys.drop i)) i [u]).take n = Pl.insAt ys i u := by
  apply List.ext_getElem?
  intro j
  rw [Pl.insAt_get _ _ _ (by omega), List.getElem?_take, hn]
  by_cases hj : n ≤ j
  · rw [if_neg (by omega), if_pos hj]
  · rw [if_pos (by omega), if_neg hj, setList_get _ _ _ _ (by rw [setList_len]; simp; omega)]
    by_cases h1 : j < i
    · rw [if_pos h1, if_neg (by omega), setList_get _ _ _ _ (by rw [List.length_drop]; omega), if_neg (by omega), ← ht, List.getElem?_take, if_pos (by omega)]
    · rw [if_neg h1]
      by_cases h2 : j = i
      · subst h2
        rw [if_pos rfl, if_pos (by simp), Nat.sub_self]; rfl
      · rw [if_neg h2, if_neg (by simp; omega), setList_get _ _ _ _ (by rw [List.length_drop]; omega), if_pos (by rw [List.length_drop]; omega), List.getElem?_drop]
        congr 1; omega
theorem ins_cells' {rest ys : List Value} {z u : Value} {i k : Nat} (hn : ys.length = n) (hi : i < n) (hk : (ys.take i ++ List.replicate (n + 1 - i) z ++ rest).length = k) :
    (setList (setList (ys.take i ++ List.replicate (n + 1 - i) z ++ rest) i [u]) (i + 1) (ys.drop i)).take n = Pl.insAt ys i u := by
  have hl : n + 1 ≤ (ys.take i ++ List.replicate (n + 1 - i) z ++ rest).length := by
    rw [List.length_append, List.length_append, List.length_take, List.length_replicate]; omega
  apply List.ext_getElem?
  intro j
  rw [Pl.insAt_get _ _ _ (by omega), List.getElem?_take, hn]
  by_cases hj : n ≤ j
  · rw [if_neg (by omega), if_pos hj]
  · rw [if_pos (by omega), if_neg hj, setList_get _ _ _ _ (by rw [setList_len, List.length_drop]; omega)]
    by_cases h1 : j < i
    · rw [if_pos h1, if_neg (by omega), setList_get _ _ _ _ (by simp only [List.length_singleton]; omega), if_neg (by omega), List.getElem?_append_left (by rw [List.length_append, List.length_take, List.length_replicate]; omega), List.getElem?_append_left (by rw [List.length_take]; omega), List.getElem?_take, if_pos h1]
    · rw [if_neg h1]
      by_cases h2 : j = i
      · subst h2
        rw [if_pos rfl, if_neg (by omega), setList_get _ _ _ _ (by simp only [List.length_singleton]; omega), if_pos (by simp), Nat.sub_self]; rfl
      · rw [if_neg h2, if_pos (by rw [List.length_drop]; omega), List.getElem?_drop]
        congr 1; omega
/-- behind slices.Insert of one element, where there was room: the slice cut back to its old length -/
theorem ins_shift {F : List Nat} {w0 wr : World} {ts : List Thing} {i k : Nat} {x : α} (hF : Flat1 E val) (h : SepF F w0 wr ts) (hi : ts[i]? = some (tsl E e xs (.slice (some ⟨g, 0, none⟩) n c) fp)) (hk : k < n) (hroom : n + 1 ≤ c) (hx : ∀ w, E.own w x [val x] []) {off1 off2 : Nat} (h1 : k + 1 = off1) (h2 : k = off2) :
    SepF F w0 ((wr.drew.setCells g off1 ((xs.map val).drop k)).setCells g off2 [val x]) (ts.set i (tsl E e (Pl.insAt xs k x) (.slice (some ⟨g, 0, none⟩) n c) fp)) := by
  subst h1; subst h2
  have hs : SlOwn E e wr xs (.slice (some ⟨g, 0, none⟩) n c) fp := h.at_ i hi
  obtain ⟨cur, hb, hcl, ht, hn, hnc, hcm, rfl⟩ := hF.blk hs
  have hxs := (hF.owns hs).2.2
  have hd : Blk wr.drew g e cur := hb
  have hb2 := setCells_blk [val x] _ k _ (setCells_blk ((xs.map val).drop k) _ (k + 1) _ hd)
  refine h.upd hi (((Chg.of_below (Below.refl wr.heap.size wr).drew).trans (setCells_chg g _ _ _)).trans (setCells_chg g _ _ _)) (t' := tsl E e (Pl.insAt xs k x) (.slice (some ⟨g, 0, none⟩) n c) [g]) ?_ (by simp [tsl]) (fun b hb => .inl hb)
  refine hF.of_blk hb2 (by rw [setList_len, setList_len, hcl]) ?_ (by rw [Pl.insAt_len _ _ _ (by omega)]; omega) hnc hcm (fun y hy => ?_)
  · rw [ins_cells ht (by rw [List.length_map]; omega) hk (by omega), Pl.insAt_map]
  · rcases Pl.insAt_mem hy with hy | rfl
    · exact hxs y hy _
    · exact hx _
/-- the same, where it has moved -/
theorem ins_grow {F : List Nat} {w0 wr : World} {ts : List Thing} {i k : Nat} {x : α} {z : Value} {ROW : Array Value} {G : Nat} (hF : Flat1 E val) (h : SepF F w0 wr ts) (hi : ts[i]? = some (tsl E e xs (.slice (some ⟨g, 0, none⟩) n c) fp)) (hk : k < n) (hx : ∀ w, E.own w x [val x] []) {off1 off2 : Nat} (h1 : k = off1) (h2 : k + 1 = off2) (hG : n + 1 ≤ G) (hGm : G ≤ maxLen)
    (hR : ROW = ((xs.map val).take k).toArray ++ Builtin.zeroCells #[z] (n + 1 - k) ++ Builtin.zeroCells #[z] (G - (n + 1))) :
    SepF F w0 ((((wr.alloc (.cells ROW e)).drew.setCells wr.heap.size off1 [val x]).drew).setCells wr.heap.size off2 ((xs.map val).drop k)) (ts.set i (tsl E e (Pl.insAt xs k x) (.slice (some ⟨wr.heap.size, 0, none⟩) n G) [wr.heap.size])) := by
  subst h1; subst h2
  have hs : SlOwn E e wr xs (.slice (some ⟨g, 0, none⟩) n c) fp := h.at_ i hi
  obtain ⟨cur, hb, hcl, ht, hn, hnc, hcm, rfl⟩ := hF.blk hs
  have hxs := (hF.owns hs).2.2
  have hz : ∀ m, (Builtin.zeroCells #[z] m).toList = List.replicate m z := fun m => by
    apply List.ext_getElem?
    intro j
    by_cases hj : j < m <;> simp [Builtin.zeroCells, hj, Nat.mod_one]
  have hRl : ROW.toList = (xs.map val).take k ++ List.replicate (n + 1 - k) z ++ List.replicate (G - (n + 1)) z := by
    rw [hR]; simp [hz]
  have hRs : ROW.toList.length = G := by
    rw [hRl]; simp; omega
  have hd : Blk (wr.alloc (.cells ROW e)).drew wr.heap.size e ROW.toList := by
    have := Blk.new wr e ROW.toList
    rw [Array.toArray_toList] at this
    exact this
  have hb1 : Blk (((wr.alloc (.cells ROW e)).drew.setCells wr.heap.size k [val x]).drew) wr.heap.size e (setList ROW.toList k [val x]) := setCells_blk [val x] _ k _ hd
  have hb2 := setCells_blk ((xs.map val).drop k) _ (k + 1) _ hb1
  have hch : Below wr.heap.size wr ((((wr.alloc (.cells ROW e)).drew.setCells wr.heap.size k [val x]).drew).setCells wr.heap.size (k + 1) ((xs.map val).drop k)) := by
    have q1 : Below wr.heap.size wr (wr.alloc (.cells ROW e)).drew := (below_new (Below.refl _ _) _).drew
    have q2 := Below.chg q1 (setCells_chg wr.heap.size [val x] _ k) q1.size (fun b hb => by rw [List.mem_singleton.1 hb]; exact Nat.le_refl _)
    have q3 := Below.chg q2.drew (setCells_chg wr.heap.size ((xs.map val).drop k) _ (k + 1)) q2.drew.size (fun b hb => by rw [List.mem_singleton.1 hb]; exact Nat.le_refl _)
    exact q3
  refine h.upd hi (Chg.of_below hch) (t' := tsl E e (Pl.insAt xs k x) (.slice (some ⟨wr.heap.size, 0, none⟩) n G) [wr.heap.size]) ?_ (by simp [tsl]) (fun b hb => .inr (by simp [tsl] at hb; omega))
  refine hF.of_blk hb2 (by rw [setList_len, setList_len, hRs]) ?_ (by rw [Pl.insAt_len _ _ _ (by omega)]; omega) (by omega) hGm (fun y hy => ?_)
  · rw [hRl, ins_cells' (by rw [List.length_map]; omega) hk rfl, Pl.insAt_map]
  · rcases Pl.insAt_mem hy with hy | rfl
    · exact hxs y hy _
    · exact hx _
end
section
variable {P : Program} (w : World)
/-- append(s, make([]T, k)...) on a slice that the call owns -/
theorem run_append_own_zeros (t tn ty e : TypeId) (i : TypeInfo) (z : Value) (bytes : Nat) (ht : P.underlying t = some (.slice e)) (htn : P.underlying tn = some (.int .i64)) (hi : P.info? e = some i) (hz : i.zero = some z) (hsize : i.size = 1) (hby : i.bytes = bytes) (hzs : z.cells = #[z]) (hz1 : z.oneCell' = true)
    (v : Value) (n : Nat) (xs : List Value) (hown : w.ownsRow 0 e 1 v n xs) (k : Nat) (hnk : n + k ≤ maxLen) (hbytes : (n + k) * bytes ≤ 140737488355328) :
    ∃ v' w', (Builtin.append_ #[t, tn] ty #[v, .int .i64 k]).run P w = .ok v' w' ∧ w'.ownsRow 0 e 1 v' (n + k) (xs ++ List.replicate k z) ∧ w.grownBy w' v.ownBlock ∧ (v'.ownBlock = v.ownBlock ∨ v'.ownBlock = some w.heap.size) := by
  subst hby
  have hzc : ∀ m, (Builtin.zeroCells z.cells m).toList = List.replicate m z := fun m => by
    rw [hzs]
    apply List.ext_getElem?
    intro j
    by_cases hj : j < m <;> simp [Builtin.zeroCells, hj, Nat.mod_one]
  have hlen : (xs ++ List.replicate k z).length = n + k := by rw [List.length_append, hown.1, List.length_replicate]; omega
  have hm63 : n + k ≤ 9223372036854775807 := by unfold maxLen at hnk; omega
  have hkb : k * i.bytes ≤ 281474976710656 := by
    have := Nat.mul_le_mul_right i.bytes (show k ≤ n + k by omega)
    omega
  have grown : ∀ (old : Nat) (row : Option Nat),
      (w.drew.alloc (.cells (xs.toArray ++ Builtin.zeroCells z.cells k ++ Builtin.zeroCells z.cells (grownCap w (n + k) old e - (n + k))) e)).ownsRow 0 e 1
        (.slice (some ⟨w.heap.size, 0, none⟩) (n + k) (grownCap w (n + k) old e)) (n + k) (xs ++ List.replicate k z) ∧
      w.grownBy (w.drew.alloc (.cells (xs.toArray ++ Builtin.zeroCells z.cells k ++ Builtin.zeroCells z.cells (grownCap w (n + k) old e - (n + k))) e)) row := by
    intro old row
    have hge := grownCap_ge w (n + k) old e
    have hcm : grownCap w (n + k) old e ≤ maxLen := grownCap_le_maxLen w (n + k) old e hnk
    refine ⟨⟨by rw [hlen]; omega, .inr ⟨w.heap.size, _, _, rfl, Nat.zero_le _, heap_alloc_new w.drew _, hge, hcm, ?_, ?_⟩⟩, ⟨rfl, rfl, rfl, by simp, fun k hk _ => heap_alloc_old w.drew _ hk⟩⟩
    · have := hown.1
      simp only [Array.size_append, List.size_toArray, size_zeroCells, hzs, Nat.mul_one, List.size_toArray]
      simp
      omega
    · simp only [Array.toList_append, hzc]
      rw [Nat.mul_one, ← hlen]
      exact List.take_left
  rcases hown.2 with ⟨rfl, rfl⟩ | ⟨g, cap, cur, rfl, hbg, hg, hnc, hcm, hcs, htake⟩
  · have hx : xs = [] := List.eq_nil_of_length_eq_zero (by simpa using hown.1)
    subst hx
    rcases Nat.eq_zero_or_pos k with rfl | hk
    · refine ⟨_, w, ?_, by simpa using World.ownsRow_nil w 0 e 1, ⟨rfl, rfl, rfl, Nat.le_refl _, fun _ _ _ => rfl⟩, .inl rfl⟩
      have hw : IntKind.i64.wrap 0 = 0 := by decide
      simp [Builtin.append_, run_underlying ht, run_underlying htn, sizeOf, typeInfo, hi, asInt, asIntOf, hw]
    · have hr := Lib.run_append_nil_zeros (P := P) w t tn ty e i z .i64 .i64 ht htn hi hz k hk (by omega) (by omega) hkb
      obtain ⟨g1, g2⟩ := grown 0 none
      simp only [Nat.zero_add] at g1 g2
      refine ⟨_, _, hr, ?_, ?_, .inr rfl⟩
      · have : (([] : List Value).toArray ++ Builtin.zeroCells z.cells k) = Builtin.zeroCells z.cells k := by simp
        rw [this] at g1
        rw [Nat.zero_add]
        exact g1
      · have : (([] : List Value).toArray ++ Builtin.zeroCells z.cells k) = Builtin.zeroCells z.cells k := by simp
        rw [this] at g2
        exact g2
  · have hw : IntKind.i64.wrap (k : Int) = k := by rw [IntKind.wrap_i64]; omega
    have hcl : cur.toList.length = cap := by rw [Array.length_toList, hcs, Nat.mul_one]
    have hxl : xs.length = n := by rw [hown.1, Nat.mul_one]
    rcases Nat.lt_or_ge cap (n + k) with hlt | hroom
    · have hold : (Builtin.firstCells i.size n (.slice (some ⟨g, 0, none⟩) n cap)).run P w.drew = .ok xs.toArray w.drew := by
        rw [hsize]
        exact run_firstCells_some w.drew 1 n ⟨g, 0, none⟩ n cap xs (by rw [hxl]; omega) (fun j v hj => by
          have := hown.cells (g := g) rfl j v hj
          exact this)
      have hr := Lib.run_append_grow_zeros (P := P) w t tn ty e i z .i64 .i64 ht htn hi hz (some ⟨g, 0, none⟩) n cap xs hold k (by omega) (by omega) hlt (by omega) hkb (growslice_fits hlt hbytes)
      obtain ⟨g1, g2⟩ := grown cap (some g)
      exact ⟨_, _, hr, g1, g2, .inr rfl⟩
    · rcases Nat.eq_zero_or_pos k with rfl | hk
      · refine ⟨.slice (some ⟨g, 0, none⟩) (n + 0) cap, w, ?_, by simpa using hown, ⟨rfl, rfl, rfl, Nat.le_refl _, fun _ _ _ => rfl⟩, .inl rfl⟩
        have hw0 : IntKind.i64.wrap 0 = 0 := by decide
        simp [Builtin.append_, run_underlying ht, run_underlying htn, sizeOf, typeInfo, hi, asInt, asIntOf, hw0, hnc, storeCells]
      · have hst := run_storeCells_at P g n e (List.replicate k z) 0 cur w hg (by rw [List.length_replicate]; have := hcs; omega) (fun v hv => by rw [(List.mem_replicate.1 hv).2]; exact hz1)
        simp only [Nat.add_zero, List.length_replicate] at hst
        have hks : ¬ (k = 0) := by omega
        have hneg : ¬ ((k : Int) < 0) := by omega
        have h48i : ¬ (281474976710656 < (k : Int) * (i.bytes : Int)) := by
          rw [← Int.natCast_mul]
          omega
        have hr : (Builtin.append_ #[t, tn] ty #[.slice (some ⟨g, 0, none⟩) n cap, .int .i64 k]).run P w = .ok (.slice (some ⟨g, 0, none⟩) (n + k) cap) (w.setRow g (cur.toList.take n ++ List.replicate k z ++ cur.toList.drop (n + k)).toArray) := by
          simp [Builtin.append_, run_underlying ht, run_underlying htn, sizeOf, typeInfo, zeroValue, hi, hz, asInt, asIntOf, hw, hneg, h48i, hsize, hks, hroom, Addr.add_lit, hzc, hst]
        refine ⟨_, _, hr, ⟨by rw [hlen]; omega, .inr ⟨g, cap, _, rfl, hbg, setRow_heap w g cur _ e _ hg, hroom, hcm, ?_, ?_⟩⟩, ⟨rfl, rfl, rfl, by simp, fun k hk hn => setRow_other w g k _ (fun e => hn (by simp [e, Value.ownBlock]))⟩, .inl rfl⟩
        · simp only [List.size_toArray, List.length_append, List.length_take, List.length_drop, List.length_replicate, hcl]
          omega
        · rw [Nat.mul_one] at htake ⊢
          show ((cur.toList.take n ++ List.replicate k z) ++ cur.toList.drop (n + k)).take (n + k) = _
          rw [htake, ← hlen]
          exact List.take_left
end
theorem SepF.perm {F : List Nat} {w0 wr : World} {ts us : List Thing} (h : SepF F w0 wr ts) (hp : us.Perm ts) : SepF F w0 wr us :=
  h.conv (List.Perm.flatMap_right _ hp) fun u hu => h.hold u (hp.mem_iff.1 hu)
/-- the third thing in front -/
theorem SepF.front3 {F : List Nat} {w0 wr : World} {ts : List Thing} {a b c : Thing} (h : SepF F w0 wr (a :: b :: c :: ts)) : SepF F w0 wr (c :: a :: b :: ts) :=
  h.perm (List.perm_middle (l₁ := [a, b])).symm
/-- append of zero values, on one of the things -/
theorem SepF.zeros {P : Program} {α : Type} {E : Rep α} {val : α → Value} {F : List Nat} {w0 w : World} {ts : List Thing} {i : Nat} {xs : List α} {v : Value} {fp : List Nat} {z0 : α} (hF : Flat1 E val) (h : SepF F w0 w ts) (t tn ty e : TypeId) (ii : TypeInfo) (z : Value) (bytes : Nat) (hi : ts[i]? = some (tsl E e xs v fp)) (ht : P.underlying t = some (.slice e)) (htn : P.underlying tn = some (.int .i64)) (hin : P.info? e = some ii) (hz : ii.zero = some z) (hsize : ii.size = 1) (hby : ii.bytes = bytes) (hzs : z.cells = #[z]) (hz1 : z.oneCell' = true)
    (hv : val z0 = z) (hz0 : ∀ w, E.own w z0 [z] []) (k : Nat) (hnk : xs.length + k ≤ maxLen) (hbytes : (xs.length + k) * bytes ≤ 140737488355328) :
    ∃ v' w' fp', (Builtin.append_ #[t, tn] ty #[v, .int .i64 k]).run P w = .ok v' w' ∧ SepF F w0 w' (ts.set i (tsl E e (xs ++ List.replicate k z0) v' fp')) := by
  have hs : SlOwn E e w xs v fp := h.at_ i hi
  obtain ⟨ho, hfp, hx⟩ := hF.owns hs
  obtain ⟨v', w', h1, h2, h3, h4⟩ := run_append_own_zeros (P := P) w (ty := ty) t tn e ii z bytes ht htn hin hz hsize hby hzs hz1 v _ _ ho k hnk hbytes
  refine ⟨v', w', v'.ownBlock.toList, h1, h.upd hi ⟨h3.os, h3.tape, h3.output, h3.size, fun b hb hn => h3.block b hb (fun e => hn (by rw [hfp]; show b ∈ v.ownBlock.toList; rw [← e]; simp))⟩ (t' := tsl E e (xs ++ List.replicate k z0) v' v'.ownBlock.toList) ?_ (by simp only [tsl]; cases v'.ownBlock <;> simp) (fun b hb => ?_)⟩
  · refine hF.row ?_ (fun x hm => ?_)
    · rw [List.length_append, List.length_replicate, List.map_append, List.map_replicate, hv]
      exact h2
    · rcases List.mem_append.1 hm with hm | hm
      · exact hx x hm _
      · rw [(List.mem_replicate.1 hm).2, hv]; exact hz0 _
  · simp only [tsl] at hb ⊢
    rw [hfp]
    rcases h4 with h4 | h4
    · rw [h4] at hb; exact .inl hb
    · rw [h4] at hb; simp at hb; exact .inr (by omega)
end Mm
end Go.Proofs.Ytnppcdiicnofpaa

/-
  slices.Insert at elements of several cells: the rows before and behind, and what an owned slice is then. No program in sight. No conditions.
-/
namespace Go.Proofs.Ytnppcdiicnofpaa
open Go.RowKit
namespace Mm
section
variable {P : Program}
/-- copy, at elements of s cells: all is read before anything is written -/
theorem run_copy_k (w : World) (dT sT ty elem : TypeId) (s b o dLen dCap : Nat) (a : Addr) (sLen sCap : Nat) (cs : List Value)
    (hu : P.underlying dT = some (.slice elem)) (hs : (P.info? elem).map (·.size) = some s) (hn : cs.length = Nat.min sLen dLen * s)
    (hsrc : ∀ j v, cs[j]? = some v → w.cell? (a.add j) = some v) (hc : ∀ j, j < cs.length → (w.cell? ⟨b, o + j, none⟩).isSome = true) (hf : ∀ j, j < cs.length → w.frozen? ⟨b, o + j, none⟩ = false) (h1 : ∀ v ∈ cs, v.oneCell' = true) :
    (Builtin.copy_ #[dT, sT] ty #[.slice (some ⟨b, o, none⟩) dLen dCap, .slice (some a) sLen sCap]).run P w = .ok (goInt (Nat.min sLen dLen)) (w.setCells b o cs) := by
  have hl := run_loadCells_list (P := P) w a cs hsrc
  have hst := run_storeCells_cells (P := P) b o cs 0 w (by simpa using hc) (by simpa using hf) h1
  cases hq : P.info? elem with
  | none => simp [hq] at hs
  | some i =>
    have hi : i.size = s := by simpa [hq] using hs
    simp [Builtin.copy_, run_underlying hu, Builtin.lenOf, Builtin.firstCells, sizeOf, typeInfo, hq, hi, ← hn, hl, hst]
end
theorem ins_rows {cur cells ct : List Value} {N K S : Nat} (ht : cur.take N = cells) (hl : cells.length = N) (hK : K ≤ N) (hS : ct.length = S) (hroom : N + S ≤ cur.length) :
    (setList (setList cur (K + S) (cells.drop K)) K ct).take (N + S) = cells.take K ++ ct ++ cells.drop K := by
  apply List.ext_getElem?
  intro j
  rw [List.getElem?_take]
  by_cases hj : j < N + S
  · rw [if_pos hj, setList_get _ _ _ _ (by rw [setList_len, hS]; omega), setList_get _ _ _ _ (by rw [List.length_drop, hl]; omega), List.length_drop, hl, hS]
    by_cases h1 : j < K
    · rw [if_neg (by omega), if_neg (by omega), List.append_assoc, List.getElem?_append_left (by rw [List.length_take, hl]; omega), List.getElem?_take, if_pos h1, ← ht, List.getElem?_take, if_pos (by omega)]
    · by_cases h2 : j < K + S
      · rw [if_pos ⟨by omega, h2⟩, List.append_assoc, List.getElem?_append_right (by rw [List.length_take, hl]; omega), List.length_take, hl, Nat.min_eq_left hK, List.getElem?_append_left (by omega)]
      · rw [if_neg (by omega), if_pos (by omega), List.getElem?_append_right (by rw [List.length_append, List.length_take, hl]; omega), List.length_append, List.length_take, hl, Nat.min_eq_left hK, hS]
  · rw [if_neg hj, List.getElem?_eq_none (by rw [List.length_append, List.length_append, List.length_take, List.length_drop, hl, hS]; omega)]
theorem ins_rows' {cur cells ct : List Value} {N K S : Nat} (ht : cur.take K = cells.take K) (hl : cells.length = N) (hK : K ≤ N) (hS : ct.length = S) (hroom : N + S ≤ cur.length) :
    (setList (setList cur K ct) (K + S) (cells.drop K)).take (N + S) = cells.take K ++ ct ++ cells.drop K := by
  apply List.ext_getElem?
  intro j
  rw [List.getElem?_take]
  by_cases hj : j < N + S
  · rw [if_pos hj, setList_get _ _ _ _ (by rw [setList_len, List.length_drop, hl]; omega), setList_get _ _ _ _ (by rw [hS]; omega), List.length_drop, hl, hS]
    by_cases h1 : j < K
    · have h2 : cur[j]? = (cells.take K)[j]? := by rw [← ht, List.getElem?_take, if_pos h1]
      rw [if_neg (by omega), if_neg (by omega), List.append_assoc, List.getElem?_append_left (by rw [List.length_take, hl]; omega), h2]
    · by_cases h2 : j < K + S
      · rw [if_neg (by omega), if_pos ⟨by omega, h2⟩, List.append_assoc, List.getElem?_append_right (by rw [List.length_take, hl]; omega), List.length_take, hl, Nat.min_eq_left hK, List.getElem?_append_left (by omega)]
      · rw [if_pos (by omega), List.getElem?_append_right (by rw [List.length_append, List.length_take, hl]; omega), List.length_append, List.length_take, hl, Nat.min_eq_left hK, hS]
  · rw [if_neg hj, List.getElem?_eq_none (by rw [List.length_append, List.length_append, List.length_take, List.length_drop, hl, hS]; omega)]
/-- one element among the others, at k -/
def insertAt {α : Type} (l : List α) (k : Nat) (x : α) : List α := l.take k ++ x :: l.drop k
theorem insertAt_len {α : Type} (l : List α) (k : Nat) (x : α) : (insertAt l k x).length = l.length + 1 := by
  unfold insertAt
  rw [List.length_append, List.length_cons, ← List.take_append_drop k l, List.length_append]
  simp; omega
theorem insertAt_map {α β : Type} (f : α → β) (l : List α) (k : Nat) (x : α) : (insertAt l k x).map f = insertAt (l.map f) k (f x) := by
  unfold insertAt
  rw [List.map_append, List.map_take, List.map_cons, List.map_drop]
theorem rowsMap_take {β γ : Type} (f : β → List γ) (s : Nat) : ∀ (l : List β) (k : Nat), (∀ y ∈ l, (f y).length = s) → (l.take k).flatMap f = (l.flatMap f).take (k * s)
  | [], k, _ => by simp
  | z :: t, 0, _ => by simp
  | z :: t, k + 1, h => by
    have hz := h z (by simp)
    have e0 : (k + 1) * s = s + k * s := by rw [Nat.add_mul]; omega
    have e1 : (f z).take (s + k * s) = f z := List.take_of_length_le (by omega)
    rw [List.take_succ_cons, List.flatMap_cons, List.flatMap_cons, rowsMap_take f s t k (fun y hy => h y (by simp [hy])), List.take_append, hz, e0, e1, Nat.add_sub_cancel_left]
theorem rowsMap_drop {β γ : Type} (f : β → List γ) (s : Nat) : ∀ (l : List β) (k : Nat), (∀ y ∈ l, (f y).length = s) → (l.drop k).flatMap f = (l.flatMap f).drop (k * s)
  | [], k, _ => by simp
  | z :: t, 0, _ => by simp
  | z :: t, k + 1, h => by
    have hz := h z (by simp)
    have e0 : (k + 1) * s = s + k * s := by rw [Nat.add_mul]; omega
    have e1 : (f z).drop (s + k * s) = [] := List.drop_of_length_le (by omega)
    rw [List.drop_succ_cons, List.flatMap_cons, rowsMap_drop f s t k (fun y hy => h y (by simp [hy])), List.drop_append, hz, e0, e1, Nat.add_sub_cancel_left, List.nil_append]
theorem insertAt_flat {β γ : Type} (f : β → List γ) (s : Nat) (l : List β) (k : Nat) (x : β) (h : ∀ y ∈ l, (f y).length = s) : (insertAt l k x).flatMap f = (l.flatMap f).take (k * s) ++ f x ++ (l.flatMap f).drop (k * s) := by
  unfold insertAt
  rw [List.flatMap_append, List.flatMap_cons, rowsMap_take f s l k h, rowsMap_drop f s l k h, List.append_assoc]
theorem insertAt_get {α : Type} {l : List α} {k i : Nat} {x y : α} (hk : k ≤ l.length) (h : (insertAt l k x)[i]? = some y) : (i < k ∧ l[i]? = some y) ∨ (i = k ∧ y = x) ∨ (k < i ∧ l[i - 1]? = some y) := by
  unfold insertAt at h
  by_cases h1 : i < k
  · rw [List.getElem?_append_left (by rw [List.length_take]; omega), List.getElem?_take, if_pos h1] at h
    exact .inl ⟨h1, h⟩
  · rw [List.getElem?_append_right (by rw [List.length_take]; omega), List.length_take, Nat.min_eq_left hk] at h
    by_cases h2 : i = k
    · subst h2
      rw [Nat.sub_self] at h
      exact .inr (.inl ⟨rfl, by simpa using h.symm⟩)
    · rw [show i - k = (i - k - 1) + 1 by omega, List.getElem?_cons_succ, List.getElem?_drop, show k + (i - k - 1) = i - 1 by omega] at h
      exact .inr (.inr ⟨by omega, h⟩)
theorem insertAt_perm {α : Type} (l : List α) (k : Nat) (x : α) : (insertAt l k x).Perm (x :: l) := by
  unfold insertAt
  refine (List.perm_middle).trans ?_
  rw [List.take_append_drop]
section
variable {α : Type} {E : Rep α} {e : TypeId} {w w' : World} {xs : List α} {v v' : Value} {fp : List Nat}
/-- slices.Insert(out, k, x): what its law asks, and what its answer is worth -/
theorem SlOwn.insert (h : SlOwn E e w xs v fp) {k : Nat} (hk : k ≤ xs.length) {x : α} {cx : List Value} {fx : List Nat} (hx : E.own w x cx fx) (hnd : fp.Nodup) (hxd : fx.Nodup) (hdis : ∀ b, b ∈ fx → b ∉ fp) :
    ∃ l, w.ownsRow 0 e E.size v xs.length l ∧ (∀ u ∈ l, u.oneCell' = true) ∧ ∀ v' w', w'.ownsRow 0 e E.size v' (xs.length + 1) (l.take (k * E.size) ++ cx ++ l.drop (k * E.size)) → w.grownBy w' v.ownBlock → (v'.ownBlock = v.ownBlock ∨ ∀ g, v'.ownBlock = some g → w.heap.size ≤ g) →
      ∃ fp', SlOwn E e w' (insertAt xs k x) v' fp' ∧ fp'.Nodup ∧ ∀ b, b ∈ fp' → b ∈ fp ∨ b ∈ fx ∨ w.heap.size ≤ b := by
  have hlt := h.olt
  have hxlt := E.olt hx
  obtain ⟨es, he, ho, rfl⟩ := h
  refine ⟨_, ho, fun u hu => ?_, fun v' w' ho' hg hat => ?_⟩
  · obtain ⟨y, hy, hu⟩ := List.mem_flatMap.1 hu
    obtain ⟨z, _, hz⟩ := he.mem hy
    exact E.one hz u hu
  have hkeep : ∀ b, b ∈ es.flatMap (·.2) → w'.heap[b]? = w.heap[b]? := fun b hb => hg.block b (hlt b (List.mem_append_right _ hb)) (fun hv => by
    rw [List.nodup_append] at hnd
    exact hnd.2.2 b (by rw [← hv]; simp) b hb rfl)
  have hkx : ∀ b, b ∈ fx → w'.heap[b]? = w.heap[b]? := fun b hb => hg.block b (hxlt b hb) (fun hv => hdis b hb (List.mem_append_left _ (by rw [← hv]; simp)))
  have hke : k ≤ es.length := by rw [he.1]; exact hk
  have hp : ((insertAt es k (cx, fx)).flatMap (·.2)).Perm (fx ++ es.flatMap (·.2)) := by
    have := (insertAt_perm es k (cx, fx)).flatMap_right (fun y => y.2)
    rwa [List.flatMap_cons] at this
  refine ⟨_, ⟨insertAt es k (cx, fx), ⟨by rw [insertAt_len, insertAt_len, he.1], fun i y z hy hz => ?_⟩, ?_, rfl⟩, ?_, ?_⟩
  · rcases insertAt_get hk hy with ⟨h1, h2⟩ | ⟨h1, h2⟩ | ⟨h1, h2⟩
    · rcases insertAt_get hke hz with ⟨g1, g2⟩ | ⟨g1, g2⟩ | ⟨g1, g2⟩
      · exact E.okeep (he.2 i y z h2 g2) fun b hb => hkeep b (List.mem_flatMap.2 ⟨z, List.mem_of_getElem? g2, hb⟩)
      · omega
      · omega
    · rcases insertAt_get hke hz with ⟨g1, g2⟩ | ⟨g1, g2⟩ | ⟨g1, g2⟩
      · omega
      · subst h2; subst g2
        exact E.okeep hx hkx
      · omega
    · rcases insertAt_get hke hz with ⟨g1, g2⟩ | ⟨g1, g2⟩ | ⟨g1, g2⟩
      · omega
      · omega
      · exact E.okeep (he.2 _ y z h2 g2) fun b hb => hkeep b (List.mem_flatMap.2 ⟨z, List.mem_of_getElem? g2, hb⟩)
  · rw [insertAt_len, insertAt_flat (·.1) E.size es k (cx, fx) he.len]
    exact ho'
  · have hvn : ∀ b, b ∈ v'.ownBlock.toList → b ∉ es.flatMap (·.2) ∧ b ∉ fx := fun b hb => by
      rcases hat with hat | hat
      · rw [hat] at hb
        rw [List.nodup_append] at hnd
        exact ⟨fun hm => hnd.2.2 b hb b hm rfl, fun hm => hdis b hm (List.mem_append_left _ hb)⟩
      · have hb' := hat b (by simpa using hb)
        exact ⟨fun hm => by have := hlt _ (List.mem_append_right _ hm); omega, fun hm => by have := hxlt _ hm; omega⟩
    have h1 : v'.ownBlock.toList.Nodup := by cases v'.ownBlock <;> simp
    rw [List.nodup_append] at hnd ⊢
    refine ⟨h1, ?_, fun a ha b hb hab => ?_⟩
    · rw [hp.nodup_iff, List.nodup_append]
      exact ⟨hxd, hnd.2.1, fun a ha b hb hab => by
        subst hab
        exact hdis a ha (List.mem_append_right _ hb)⟩
    · subst hab
      rcases List.mem_append.1 (hp.mem_iff.1 hb) with hb | hb
      · exact (hvn a ha).2 hb
      · exact (hvn a ha).1 hb
  · intro b hb
    rcases List.mem_append.1 hb with hb | hb
    · rcases hat with hat | hat
      · rw [hat] at hb
        exact .inl (List.mem_append_left _ hb)
      · exact .inr (.inr (hat b (by simpa using hb)))
    · rcases List.mem_append.1 (hp.mem_iff.1 hb) with hb | hb
      · exact .inr (.inl hb)
      · exact .inl (List.mem_append_right _ hb)
end
section
variable {F : List Nat} {w0 wr W2 : World} {ts : List Thing} {s : Thing} {i j : Nat} {α : Type} {E : Rep α} {e : TypeId} {xs : List α} {v : Value} {fp : List Nat} {x : α} {cx : List Value}
/-- slices.Insert, the new element a thing of the list -/
theorem SepF.insert (h : SepF F w0 wr ts) (i j : Nat) (hij : i ≠ j) {k : Nat} (hi : ts[i]? = some (tsl E e xs v fp)) (hk : k ≤ xs.length) (hj : ts[j]? = some s) (hb : Below wr.heap.size wr W2) (hx : ∀ W, s.holds W → E.own W x cx s.fp) :
    ∃ l, W2.ownsRow 0 e E.size v xs.length l ∧ (∀ u ∈ l, u.oneCell' = true) ∧ ∀ v' w1, w1.ownsRow 0 e E.size v' (xs.length + 1) (l.take (k * E.size) ++ cx ++ l.drop (k * E.size)) → W2.grownBy w1 v.ownBlock → (v'.ownBlock = v.ownBlock ∨ ∀ g, v'.ownBlock = some g → W2.heap.size ≤ g) →
      ∃ fp', SepF F w0 w1 ((ts.set j tnil).set i (tsl E e (insertAt xs k x) v' fp')) := by
  have h2 := h.step hb
  have ho : SlOwn E e W2 xs v fp := h2.at_ i hi
  have hs := hx _ (h2.at_ j hj)
  obtain ⟨l, k1, k0, k2⟩ := ho.insert hk hs (h2.ndat hi) (h2.ndat hj) (fun b hb hm => h2.apart hi hj hij b hm hb)
  refine ⟨l, k1, k0, fun v' w1 g1 g2 g3 => ?_⟩
  obtain ⟨fp', m1, m2, m3⟩ := k2 v' w1 g1 g2 g3
  refine ⟨fp', h2.upd2 hij hi hj ?_ m1 m2 (fun b hb => ?_)⟩
  · exact ⟨g2.os, g2.tape, g2.output, g2.size, fun k hk hn => g2.block k hk (fun hh => hn (List.mem_append_left _ (row_in ho hh.symm)))⟩
  · rcases m3 b hb with h | h | h
    · exact .inl h
    · exact .inr (.inl h)
    · exact .inr (.inr (by omega))
end
end Mm
end Go.Proofs.Ytnppcdiicnofpaa

/-
  Plain totals: where one belongs among others that are in order, how one is put among them. No program in sight. No conditions.
-/
namespace Go.Proofs.Ytnppcdiicnofpaa
namespace Pl
theorem cmp_lt : ∀ a b : List UInt8, decide (Lib.compareBytes a b < 0) = Op.bytesLess a b
  | [], [] => rfl
  | [], _ :: _ => rfl
  | _ :: _, [] => rfl
  | a :: x, b :: y => by
    rw [Lib.compareBytes, Op.bytesLess]
    by_cases h1 : a < b
    · simp [h1]
    · by_cases h2 : b < a
      · have h3 : (a == b) = false := by
          rw [beq_eq_false_iff_ne]
          intro e
          subst e
          exact UInt8.lt_irrefl _ h2
        simp [h1, h2, h3]
      · have h3 : a = b := by
          apply UInt8.toNat_inj.1
          have k1 : ¬ a.toNat < b.toNat := h1
          have k2 : ¬ b.toNat < a.toNat := h2
          omega
        subst h3
        simp [UInt8.lt_irrefl]
        have := cmp_lt x y
        simpa using this
theorem cmp_zero : ∀ a b : List UInt8, Lib.compareBytes a b = 0 ↔ a = b
  | [], [] => by simp [Lib.compareBytes]
  | [], _ :: _ => by simp [Lib.compareBytes]
  | _ :: _, [] => by simp [Lib.compareBytes]
  | a :: x, b :: y => by
    rw [Lib.compareBytes]
    by_cases h1 : a < b
    · rw [if_pos h1]
      constructor
      · intro h; omega
      · intro h; injection h with h _; subst h; exact absurd h1 (UInt8.lt_irrefl _)
    · rw [if_neg h1]
      by_cases h2 : b < a
      · rw [if_pos h2]
        constructor
        · intro h; omega
        · intro h; injection h with h _; subst h; exact absurd h2 (UInt8.lt_irrefl _)
      · have h3 : a = b := by
          apply UInt8.toNat_inj.1
          have k1 : ¬ a.toNat < b.toNat := h1
          have k2 : ¬ b.toNat < a.toNat := h2
          omega
        subst h3
        rw [if_neg h2, cmp_zero x y]
        simp
def txt (x : Total) : ByteArray := labelsText x.Labels
def TSort (l : List Total) : Prop := ∀ (i j : Nat) x y, i < j → l[i]? = some x → l[j]? = some y → lessB (txt x) (txt y) = true
def tpos (s : ByteArray) : List Total → Nat
  | [] => 0
  | x :: r => if lessB (txt x) s = true then tpos s r + 1 else 0
theorem TSort.tail {x : Total} {l : List Total} (h : TSort (x :: l)) : TSort l := fun i j a b hij ha hb => h (i + 1) (j + 1) a b (by omega) ha hb
theorem tpos_le (s : ByteArray) : ∀ l, tpos s l ≤ l.length
  | [] => Nat.le_refl _
  | x :: r => by
    unfold tpos
    have := tpos_le s r
    split <;> simp <;> omega
theorem tpos_lt (s : ByteArray) : ∀ (l : List Total) (i : Nat) (x : Total), i < tpos s l → l[i]? = some x → lessB (txt x) s = true
  | [], _, _, h, _ => by simp [tpos] at h
  | y :: r, i, x, h, hx => by
    unfold tpos at h
    split at h
    · rename_i hy
      cases i with
      | zero => simp at hx; subst hx; exact hy
      | succ i => exact tpos_lt s r i x (by omega) (by simpa using hx)
    · omega
theorem less_trans {a b c : ByteArray} (h : lessB a b = true) (k : lessB b c = true) : lessB a c = true := bless_trans h k
theorem less_irrefl (a : ByteArray) : lessB a a = false := bless_irrefl _
theorem tpos_ge (s : ByteArray) : ∀ (l : List Total), TSort l → ∀ (i : Nat) (x : Total), tpos s l ≤ i → l[i]? = some x → lessB (txt x) s = false
  | [], _, _, _, _, h => by simp at h
  | y :: r, hs, i, x, h, hx => by
    unfold tpos at h
    split at h
    · cases i with
      | zero => omega
      | succ i => exact tpos_ge s r hs.tail i x (by omega) (by simpa using hx)
    · rename_i hy
      cases i with
      | zero => simp at hx; subst hx; simpa using hy
      | succ i =>
        have h1 := hs 0 (i + 1) y x (by omega) rfl hx
        cases hc : lessB (txt x) s with
        | false => rfl
        | true => exact absurd (less_trans h1 hc) hy
theorem less_total {a b : ByteArray} (h : a ≠ b) : lessB a b = true ∨ lessB b a = true := bless_total (fun e => h (ba_inj e))
def tadd (o t : Total) : Total := ⟨o.Labels, o.Sum + t.Sum, o.Count + t.Count, if t.Least < o.Least then t.Least else o.Least, if o.Most < t.Most then t.Most else o.Most⟩
def tput (l : List Total) (t : Total) : List Total :=
  match l[tpos (txt t) l]? with
  | some o => if txt o = txt t then l.set (tpos (txt t) l) (tadd o t) else Mm.insertAt l (tpos (txt t) l) t
  | none => Mm.insertAt l (tpos (txt t) l) t
def tcomb (l : List Total) : List Total := l.foldl tput []
theorem tcomb_snoc (l : List Total) (t : Total) : tcomb (l ++ [t]) = tput (tcomb l) t := by unfold tcomb; rw [List.foldl_append]; rfl
theorem tput_hit {l : List Total} {t o : Total} (h : l[tpos (txt t) l]? = some o) (he : txt o = txt t) : tput l t = l.set (tpos (txt t) l) (tadd o t) := by
  unfold tput; rw [h]; exact if_pos he
theorem tput_miss {l : List Total} {t : Total} (h : ∀ o, l[tpos (txt t) l]? = some o → txt o ≠ txt t) : tput l t = Mm.insertAt l (tpos (txt t) l) t := by
  unfold tput
  split
  · rename_i o ho
    exact if_neg (h o ho)
  · rfl
/-- what a list of totals is while it is made, out of b: in order, its labels good, its numbers small -/
structure TOk (b : Nat) (l : List Total) : Prop where
  sort : TSort l
  lab : ∀ x, x ∈ l → labelsOk x.Labels = true
  sum : ∀ x, x ∈ l → -(b : Int) * 1000000000 ≤ x.Sum ∧ x.Sum ≤ (b : Int) * 1000000000
  cnt : ∀ x, x ∈ l → 1 ≤ x.Count ∧ x.Count ≤ (b : Int) * 1000
  least : ∀ x, x ∈ l → -1000000 ≤ x.Least ∧ x.Least ≤ x.Most ∧ x.Most ≤ 1000000
  len : l.length ≤ b
theorem TOk.nil (b : Nat) : TOk b [] := ⟨(fun i j x y _ h => by simp at h), (fun x h => by cases h), (fun x h => by cases h), (fun x h => by cases h), (fun x h => by cases h), Nat.zero_le _⟩
theorem isIn_if {x a b : Int} : isIn x a b = true ↔ a ≤ x ∧ x ≤ b := by
  unfold isIn
  simp only [Bool.and_eq_true, decide_eq_true_eq]
theorem totOk_iff {x : Total} : totOk x = true ↔ labelsOk x.Labels = true ∧ (1 ≤ x.Count ∧ x.Count ≤ 1000) ∧ (-1000000000 ≤ x.Sum ∧ x.Sum ≤ 1000000000) ∧ (-1000000 ≤ x.Least ∧ x.Least ≤ x.Most) ∧ x.Most ≤ 1000000 := by
  unfold totOk
  simp only [Bool.and_eq_true, isIn_if, decide_eq_true_eq, and_assoc]
theorem tadd_txt (o t : Total) : txt (tadd o t) = txt o := rfl
theorem TSort.set {l : List Total} (h : TSort l) {p : Nat} {o o' : Total} (hp : l[p]? = some o) (he : txt o' = txt o) : TSort (l.set p o') := by
  have get : ∀ i y, (l.set p o')[i]? = some y → ∃ z, l[i]? = some z ∧ txt z = txt y := fun i y hy => by
    by_cases hi : p = i
    · subst hi
      rw [List.getElem?_set_self (List.getElem?_eq_some_iff.1 hp).1] at hy
      injection hy with hy
      subst hy
      exact ⟨o, hp, he.symm⟩
    · rw [List.getElem?_set_ne hi] at hy
      exact ⟨y, hy, rfl⟩
  intro i j x y hij hx hy
  obtain ⟨x', hx', ex⟩ := get i x hx
  obtain ⟨y', hy', ey⟩ := get j y hy
  rw [← ex, ← ey]
  exact h i j x' y' hij hx' hy'
theorem TSort.insert {l : List Total} (h : TSort l) {t : Total} (hm : ∀ o, l[tpos (txt t) l]? = some o → txt o ≠ txt t) : TSort (Mm.insertAt l (tpos (txt t) l) t) := by
  have hk := tpos_le (txt t) l
  have hgt : ∀ (i : Nat) (x : Total), tpos (txt t) l ≤ i → l[i]? = some x → lessB (txt t) (txt x) = true := fun i x hi hx => by
    have hlt := (List.getElem?_eq_some_iff.1 hx).1
    obtain ⟨o, ho⟩ : ∃ o, l[tpos (txt t) l]? = some o := ⟨_, List.getElem?_eq_getElem (by omega)⟩
    have h1 := tpos_ge (txt t) l h _ o (Nat.le_refl _) ho
    have h2 : lessB (txt t) (txt o) = true := by
      rcases less_total (hm o ho) with h3 | h3
      · rw [h1] at h3; cases h3
      · exact h3
    by_cases he : tpos (txt t) l = i
    · rw [he, hx] at ho
      injection ho with ho
      rw [ho]; exact h2
    · exact less_trans h2 (h _ _ o x (by omega) ho hx)
  intro i j x y hij hx hy
  rcases Mm.insertAt_get hk hx with ⟨a1, a2⟩ | ⟨a1, a2⟩ | ⟨a1, a2⟩
  · rcases Mm.insertAt_get hk hy with ⟨b1, b2⟩ | ⟨b1, b2⟩ | ⟨b1, b2⟩
    · exact h i j x y hij a2 b2
    · rw [b2]; exact tpos_lt _ l i x a1 a2
    · exact less_trans (tpos_lt _ l i x a1 a2) (hgt _ y (by omega) b2)
  · rcases Mm.insertAt_get hk hy with ⟨b1, b2⟩ | ⟨b1, b2⟩ | ⟨b1, b2⟩
    · omega
    · omega
    · rw [a2]; exact hgt _ y (by omega) b2
  · rcases Mm.insertAt_get hk hy with ⟨b1, b2⟩ | ⟨b1, b2⟩ | ⟨b1, b2⟩
    · omega
    · omega
    · exact h (i - 1) (j - 1) x y (by omega) a2 b2
theorem tput_len (l : List Total) (t : Total) : (tput l t).length ≤ l.length + 1 := by
  unfold tput
  split
  · split
    · rw [List.length_set]; omega
    · rw [Mm.insertAt_len]; exact Nat.le_refl _
  · rw [Mm.insertAt_len]; exact Nat.le_refl _
theorem tput_sort {l : List Total} {t : Total} (h : TSort l) : TSort (tput l t) := by
  by_cases hh : ∃ o, l[tpos (txt t) l]? = some o ∧ txt o = txt t
  · obtain ⟨o, ho, he⟩ := hh
    rw [tput_hit ho he]
    exact h.set ho rfl
  · have hm : ∀ o, l[tpos (txt t) l]? = some o → txt o ≠ txt t := fun o ho he => hh ⟨o, ho, he⟩
    rw [tput_miss hm]
    exact h.insert hm
theorem tput_mem {l : List Total} {t x : Total} (hx : x ∈ tput l t) : x ∈ l ∨ x = t ∨ ∃ o, o ∈ l ∧ x = tadd o t := by
  have ins : x ∈ Mm.insertAt l (tpos (txt t) l) t → x ∈ l ∨ x = t ∨ ∃ o, o ∈ l ∧ x = tadd o t := fun hx => by
    rcases List.mem_cons.1 ((Mm.insertAt_perm l (tpos (txt t) l) t).mem_iff.1 hx) with hx | hx
    · exact .inr (.inl hx)
    · exact .inl hx
  unfold tput at hx
  split at hx
  · rename_i o ho
    split at hx
    · rcases List.mem_or_eq_of_mem_set hx with hx | hx
      · exact .inl hx
      · exact .inr (.inr ⟨o, List.mem_of_getElem? ho, hx⟩)
    · exact ins hx
  · exact ins hx
theorem TOk.put {b : Nat} {l : List Total} {t : Total} (h : TOk b l) (ht : totOk t = true) : TOk (b + 1) (tput l t) := by
  obtain ⟨t1, t2, t3, t4, t5⟩ := totOk_iff.1 ht
  refine ⟨tput_sort h.sort, fun x hx => ?_, fun x hx => ?_, fun x hx => ?_, fun x hx => ?_, ?_⟩
  · rcases tput_mem hx with hx | rfl | ⟨o, ho, rfl⟩
    · exact h.lab x hx
    · exact t1
    · exact h.lab o ho
  · rcases tput_mem hx with hx | rfl | ⟨o, ho, rfl⟩
    · have := h.sum x hx; constructor <;> omega
    · constructor <;> omega
    · have := h.sum o ho
      show _ ≤ o.Sum + t.Sum ∧ o.Sum + t.Sum ≤ _
      constructor <;> omega
  · rcases tput_mem hx with hx | rfl | ⟨o, ho, rfl⟩
    · have := h.cnt x hx; constructor <;> omega
    · constructor <;> omega
    · have := h.cnt o ho
      show _ ≤ o.Count + t.Count ∧ o.Count + t.Count ≤ _
      constructor <;> omega
  · rcases tput_mem hx with hx | rfl | ⟨o, ho, rfl⟩
    · exact h.least x hx
    · exact ⟨t4.1, t4.2, t5⟩
    · have := h.least o ho
      show -1000000 ≤ (if t.Least < o.Least then t.Least else o.Least) ∧ (if t.Least < o.Least then t.Least else o.Least) ≤ (if o.Most < t.Most then t.Most else o.Most) ∧ (if o.Most < t.Most then t.Most else o.Most) ≤ 1000000
      split <;> split <;> omega
  · have := tput_len l t
    have := h.len
    omega
theorem TOk.comb {l : List Total} (hl : ∀ x, x ∈ l → totOk x = true) : ∀ k, k ≤ l.length → TOk k (tcomb (l.take k))
  | 0, _ => TOk.nil 0
  | k + 1, hk => by
    rw [List.take_succ_eq_append_getElem (by omega), tcomb_snoc]
    exact (TOk.comb hl k (by omega)).put (hl _ (List.getElem_mem _))
theorem tcomb_next {l : List Total} {k : Nat} {x : Total} (h : l[k]? = some x) : tcomb (l.take (k + 1)) = tput (tcomb (l.take k)) x := by
  obtain ⟨hk, hx⟩ := List.getElem?_eq_some_iff.1 h
  rw [List.take_succ_eq_append_getElem hk, hx, tcomb_snoc]
def tgood (l : List Total) : List Total × Bool := if totalsOk l = true then (l, true) else ([], false)
def tmerge (a b : List Total) : List Total × Bool := if (totalsOk a && totalsOk b) = true then tgood (tcomb (a ++ b)) else ([], false)
end Pl
end Go.Proofs.Ytnppcdiicnofpaa

/-
  The library's strings.Join, where it lies in this program. No conditions.
-/
namespace Go.Proofs.Ytnppcdiicnofpaa
def ljF : Nat → Nat
  | 156 => 100
  | 165 => 112
  | 166 => 113
  | 169 => 114
  | 240 => 118
  | 241 => 119
  | 276 => 122
  | 277 => 123
  | _ => 0
def ljT : Nat → Nat
  | 0 => 0
  | 3 => 3
  | 4 => 4
  | 5 => 5
  | 9 => 9
  | 20 => 20
  | 31 => 41
  | 37 => 39
  | 70 => 141
  | 72 => 143
  | 75 => 146
  | 76 => 147
  | 80 => 149
  | 127 => 150
  | 164 => 152
  | _ => 0
def lj : Shelf.Ren := ⟨ljF, ljT, fun x => x⟩
set_option maxRecDepth 1000000 in
theorem ljJoin : Lays.n156 Try.prog lj where
  mixed := by kernel_rfl
  f156 := by kernel_rfl
  f165 := by kernel_rfl
  f166 := by kernel_rfl
  f169 := by kernel_rfl
  f240 := by kernel_rfl
  f241 := by kernel_rfl
  f276 := by kernel_rfl
  f277 := by kernel_rfl
  t0 := by kernel_rfl
  a0 := fun _ => rfl
  z0 := fun _ => rfl
  v0 := fun _ => rfl
  t3 := by kernel_rfl
  a3 := fun _ => rfl
  z3 := fun _ => rfl
  v3 := fun _ => rfl
  t4 := by kernel_rfl
  a4 := fun _ => rfl
  z4 := fun _ => rfl
  v4 := fun _ => rfl
  t9 := by kernel_rfl
  a9 := fun _ => rfl
  z9 := fun _ => rfl
  v9 := fun _ => rfl
  t20 := by kernel_rfl
  a20 := fun _ => rfl
  z20 := fun _ => rfl
  v20 := fun _ => rfl
  t31 := by kernel_rfl
  a31 := fun _ => rfl
  z31 := fun _ => rfl
  v31 := fun _ => rfl
  t37 := by kernel_rfl
  a37 := fun _ => rfl
  z37 := fun _ => rfl
  v37 := fun _ => rfl
  t70 := by kernel_rfl
  a70 := fun _ => rfl
  z70 := fun _ => rfl
  v70 := fun _ => rfl
  t72 := by kernel_rfl
  a72 := fun _ => rfl
  z72 := fun _ => rfl
  v72 := fun _ => rfl
  t75 := by kernel_rfl
  a75 := fun _ => rfl
  z75 := fun _ => rfl
  v75 := fun _ => rfl
  t76 := by kernel_rfl
  a76 := fun _ => rfl
  z76 := fun _ => rfl
  v76 := fun _ => rfl
  t127 := by kernel_rfl
  a127 := fun _ => rfl
  z127 := fun _ => rfl
  v127 := fun _ => rfl
  t164 := by kernel_rfl
  a164 := fun _ => rfl
  z164 := fun _ => rfl
  v164 := fun _ => rfl
set_option maxRecDepth 1000000 in
theorem ljX : Builder.Extra Try.prog lj where
  sizeBuilder := by kernel_rfl
  liesBuilder := by kernel_rfl
  t5 := by kernel_rfl
  a5 := fun _ => rfl
  z5 := fun _ => rfl
  v5 := fun _ => rfl
  infoByte := by kernel_rfl
  cellsByte := by kernel_rfl
  sizeByte := by kernel_rfl
  neB5 := by decide
end Go.Proofs.Ytnppcdiicnofpaa

/-
  Contracts: labels and their texts. No conditions.
-/
namespace Go.Proofs.Ytnppcdiicnofpaa
open Go.RowKit
attribute [local go_sem] und_cell World.cell?_alloc_some
theorem isLabel_c (x : Label) (w : World) (h1 : x.Name.size ≤ maxLen) (h2 : x.Value.size ≤ maxLen) :
    Calls Try.prog 97 #[.agg #[.string x.Name, .string x.Value]] w fun e w' => e = .returned (.bool (Pl.labelOk x)) ∧ Below w.heap.size w w' := by
  have hb0 : Below w.heap.size w (w.alloc (.cells #[.string x.Name, .string x.Value] 97)) := below_new (Below.refl _ _) _
  cases k1 : Pl.word false x.Name.data.toList
  · go_enter Try.func97, Try.ntmps97
    go_wp2_with (go_at_call 111; refine (isWord_c _ _ _ (by assumption)).mono ?_; rintro e w' ⟨rfl, rfl⟩)
    go_ret
    exact ⟨ret_bool (by unfold Pl.labelOk; rw [k1]; rfl), hb0⟩
  · go_enter Try.func97, Try.ntmps97
    go_wp2_with (go_at_call 111; refine (isWord_c _ _ _ (by assumption)).mono ?_; rintro e w' ⟨rfl, rfl⟩)
    go_ret
    exact ⟨ret_bool (by unfold Pl.labelOk; rw [k1]; simp), hb0⟩
--%labs
set_option maxRecDepth 100000 in
set_option maxHeartbeats 2000000 in
theorem areLabels_c (l : List Label) (A : Option Addr) (n c : Nat) (w : World) (B : Nat) (hl : Mm.SlAt rLabel w B l A n c) (hB : B ≤ w.heap.size) :
    Calls Try.prog 70 #[.slice A n c] w fun e w' => e = .returned (.bool (Pl.labelsOk l)) ∧ Below w.heap.size w w' := by
  have hlen : Hid (l.length = n) := hl.1
  have hn : n ≤ maxLen := Nat.le_trans hl.2.1 hl.2.2.1
  unfold maxLen at hn
  have HL := Lib.hid hl
  clear hl
  go_enter Try.func70, Try.ntmps70
  go_wp2
  go_loopg [7] n (fun g i wr => Below w.heap.size w wr ∧ ∃ k : Nat, n - k ≤ g ∧ k ≤ n ∧ i = .int .i64 k ∧ Hid (∀ j, j < k → Pl.labP l j = true))
  case atStart => exact ⟨Below.refl _ _, 0, Nat.le_refl _, Nat.zero_le _, rfl, fun j hj => absurd hj (Nat.not_lt_zero j)⟩
  case round =>
    obtain ⟨hbel, k, hgk, hk, rfl, HU⟩ := hrel
    obtain ⟨W, rfl⟩ : ∃ W : World, W = wr := ⟨_, rfl⟩
    have HLw := Lib.hid (HL.out.keep fun b hb' => hbel.block b (Nat.lt_of_lt_of_le hb' hB))
    have HBL := Lib.hid hbel
    have hsw := hbel.size
    clear hbel
    by_cases hlt : k < n
    · obtain ⟨x, b0, off, hx, rfl, hbb, g0, g1, d0, d1⟩ := rLabel_get HLw.out hlt
      obtain ⟨z, hz, -, e0, e1, q0, q1⟩ := rLabel_get' HLw.out (show k - 1 < n by omega)
      have HP : Hid (Pl.labP l k = Pl.labQ k x z) := by show _ = _; unfold Pl.labP; rw [Pl.labAt_of hx, Pl.labAt_of hz]
      have NO : Hid (Pl.labQ k x z = false → Pl.labelsOk l = false) := fun h => by
        unfold Pl.labelsOk; rw [Pl.allB_no (by rw [hlen.out]; exact hlt) (by rw [HP.out, h])]; rfl
      clear hx hz
      have hlt' : (k : Int) < (n : Nat) := by omega
      have hlt2 : (0 : Int) ≤ (k : Nat) := by omega
      cases kk : Pl.labelOk x
      · have HV := Lib.hid (NO.out (by unfold Pl.labQ; rw [kk]; rfl))
        clear NO HP
        go_wp2
        refine wp_region_und (by kernel_rfl) (by kernel_rfl) ?_
        repeat (go_big_quiet_step ((first | (go_at_call 97; exact und_call _ (isLabel_c x _ g0 g1)))))
        refine wpQuiet_nil ?_
        intro X hX
        have hbx := Lib.hid (below_step HBL.out (below_step (below_new (Below.refl _ _) _) hX))
        go_wp2
        go_ret
        exact ⟨ret_bool HV.out.symm, hbx.out⟩
      · skip
        by_cases hk0 : k = 0
        · subst hk0
          clear q0 q1
          simp only [Nat.zero_mul, Nat.add_zero] at d0 d1
          have HN := Lib.hid (Pl.snocB HU.out (by rw [HP.out]; unfold Pl.labQ; rw [kk]; rfl))
          clear NO HP
          go_wp2
          refine wp_region_und (by kernel_rfl) (by kernel_rfl) ?_
          repeat (go_big_quiet_step ((first | (go_at_call 97; exact und_call _ (isLabel_c x _ g0 g1)))))
          refine wpQuiet_nil ?_
          intro X hX
          have hbx := Lib.hid (below_step HBL.out (below_step (below_new (Below.refl _ _) _) hX))
          go_wp2
          go_roundg (n - (0 + 1))
          case measure => omega
          case rel => exact ⟨hbx.out, 0 + 1, Nat.le_refl _, by omega, by go_num, HN.out⟩
        · obtain ⟨k, rfl⟩ : ∃ j, k = j + 1 := ⟨k - 1, by omega⟩
          rw [Nat.add_sub_cancel] at q0 q1
          have hw1 : IntKind.i64.wrap (((k + 1 : Nat) : Int) - 1) = (k : Nat) := by rw [show ((k + 1 : Nat) : Int) - 1 = (k : Nat) by omega]; exact IntWalk.i64_in _ (by omega)
          have hk3 : (0 : Int) < ((k + 1 : Nat) : Int) := by omega
          have hk4 : (0 : Int) ≤ ((k : Nat) : Int) := by omega
          have hk5 : ((k : Nat) : Int) < (n : Nat) := by omega
          cases kl : Pl.lessB z.Name x.Name
          · have kl' : Op.bytesLess z.Name.toList x.Name.toList = false := kl
            have HV := Lib.hid (NO.out (by unfold Pl.labQ; rw [kk]; rw [kl]; rfl))
            clear NO HP
            go_wp2
            refine wp_region_und (by kernel_rfl) (by kernel_rfl) ?_
            repeat (go_big_quiet_step ((first | (go_at_call 97; exact und_call _ (isLabel_c x _ g0 g1)))))
            refine wpQuiet_nil ?_
            intro X hX
            have hbx := Lib.hid (below_step HBL.out (below_step (below_new (Below.refl _ _) _) hX))
            go_wp2
            go_ret
            exact ⟨ret_bool HV.out.symm, hbx.out⟩
          · skip
            have kl' : Op.bytesLess z.Name.toList x.Name.toList = true := kl
            have HN := Lib.hid (Pl.snocB HU.out (by rw [HP.out]; unfold Pl.labQ; rw [kk]; rw [kl]; simp))
            clear NO HP
            go_wp2
            refine wp_region_und (by kernel_rfl) (by kernel_rfl) ?_
            repeat (go_big_quiet_step ((first | (go_at_call 97; exact und_call _ (isLabel_c x _ g0 g1)))))
            refine wpQuiet_nil ?_
            intro X hX
            have hbx := Lib.hid (below_step HBL.out (below_step (below_new (Below.refl _ _) _) hX))
            go_wp2
            go_roundg (n - (k + 1 + 1))
            case measure => omega
            case rel => exact ⟨hbx.out, k + 1 + 1, Nat.le_refl _, by omega, by go_num, HN.out⟩
    · have HF : Hid (Pl.labelsOk l = decide (n ≤ 6)) := by
        show _ = _
        unfold Pl.labelsOk
        rw [Pl.allB_yes (fun j hj => HU.out j (by rw [hlen.out] at hj; omega)), hlen.out]
        rfl
      obtain rfl : k = n := by omega
      go_wp2
      go_ret
      exact ⟨ret_bool (by rw [HF.out]; exact decide_eq_decide.2 (by omega)), HBL.out⟩
set_option maxRecDepth 100000 in
set_option maxHeartbeats 2000000 in
theorem GoodLabels_c (l : List Label) (A : Option Addr) (n c : Nat) (w : World) (B : Nat) (hl : Mm.SlAt rLabel w B l A n c) (hB : B ≤ w.heap.size) :
    Calls Try.prog 67 #[.slice A n c] w fun e w' => e = .returned (.bool (Pl.labelsOk l)) ∧ Below w.heap.size w w' := by
  have hlen : Hid (l.length = n) := hl.1
  have hn : n ≤ maxLen := Nat.le_trans hl.2.1 hl.2.2.1
  unfold maxLen at hn
  have HL := Lib.hid hl
  clear hl
  go_enter Try.func67, Try.ntmps67
  go_wp2
  go_loopg [7] n (fun g i wr => Below w.heap.size w wr ∧ ∃ k : Nat, n - k ≤ g ∧ k ≤ n ∧ i = .int .i64 k ∧ Hid (∀ j, j < k → Pl.labP l j = true))
  case atStart => exact ⟨Below.refl _ _, 0, Nat.le_refl _, Nat.zero_le _, rfl, fun j hj => absurd hj (Nat.not_lt_zero j)⟩
  case round =>
    obtain ⟨hbel, k, hgk, hk, rfl, HU⟩ := hrel
    obtain ⟨W, rfl⟩ : ∃ W : World, W = wr := ⟨_, rfl⟩
    have HLw := Lib.hid (HL.out.keep fun b hb' => hbel.block b (Nat.lt_of_lt_of_le hb' hB))
    have HBL := Lib.hid hbel
    have hsw := hbel.size
    clear hbel
    by_cases hlt : k < n
    · obtain ⟨x, b0, off, hx, rfl, hbb, g0, g1, d0, d1⟩ := rLabel_get HLw.out hlt
      obtain ⟨z, hz, -, e0, e1, q0, q1⟩ := rLabel_get' HLw.out (show k - 1 < n by omega)
      have HP : Hid (Pl.labP l k = Pl.labQ k x z) := by show _ = _; unfold Pl.labP; rw [Pl.labAt_of hx, Pl.labAt_of hz]
      have NO : Hid (Pl.labQ k x z = false → Pl.labelsOk l = false) := fun h => by
        unfold Pl.labelsOk; rw [Pl.allB_no (by rw [hlen.out]; exact hlt) (by rw [HP.out, h])]; rfl
      clear hx hz
      have hlt' : (k : Int) < (n : Nat) := by omega
      have hlt2 : (0 : Int) ≤ (k : Nat) := by omega
      have CN := fun q : Und (W.alloc (.cells #[.string x.Name, .string x.Value] 97)) => und_same q (l3Name_c x.Name false _ g0)
      have CV := fun q : Und (W.alloc (.cells #[.string x.Name, .string x.Value] 97)) => und_same q (l3Name_c x.Value true _ g1)
      cases k1 : Pl.word false x.Name.data.toList
      · have HV := Lib.hid (NO.out (by unfold Pl.labQ; unfold Pl.labelOk; rw [k1]; rfl))
        clear NO HP
        go_wp2
        refine wp_region_und (by kernel_rfl) (by kernel_rfl) ?_
        repeat (go_big_quiet_step ((first | (go_at_call 96; first | (with_reducible exact CN _) | (with_reducible exact CV _)))))
        refine wpQuiet_nil ?_
        intro X hX
        have hbx := Lib.hid (below_step HBL.out (below_step (below_new (Below.refl _ _) _) hX))
        go_wp2
        go_ret
        exact ⟨ret_bool HV.out.symm, hbx.out⟩
      · skip
        cases k2 : Pl.word true x.Value.data.toList
        · have HV := Lib.hid (NO.out (by unfold Pl.labQ; unfold Pl.labelOk; rw [k1, k2]; rfl))
          clear NO HP
          go_wp2
          refine wp_region_und (by kernel_rfl) (by kernel_rfl) ?_
          repeat (go_big_quiet_step ((first | (go_at_call 96; first | (with_reducible exact CN _) | (with_reducible exact CV _)))))
          refine wpQuiet_nil ?_
          intro X hX
          have hbx := Lib.hid (below_step HBL.out (below_step (below_new (Below.refl _ _) _) hX))
          go_wp2
          go_ret
          exact ⟨ret_bool HV.out.symm, hbx.out⟩
        · skip
          by_cases hk0 : k = 0
          · subst hk0
            clear q0 q1
            simp only [Nat.zero_mul, Nat.add_zero] at d0 d1
            have HN := Lib.hid (Pl.snocB HU.out (by rw [HP.out]; unfold Pl.labQ; unfold Pl.labelOk; rw [k1, k2]; rfl))
            clear NO HP
            go_wp2
            refine wp_region_und (by kernel_rfl) (by kernel_rfl) ?_
            repeat (go_big_quiet_step ((first | (go_at_call 96; first | (with_reducible exact CN _) | (with_reducible exact CV _)))))
            refine wpQuiet_nil ?_
            intro X hX
            have hbx := Lib.hid (below_step HBL.out (below_step (below_new (Below.refl _ _) _) hX))
            go_wp2
            go_roundg (n - (0 + 1))
            case measure => omega
            case rel => exact ⟨hbx.out, 0 + 1, Nat.le_refl _, by omega, by go_num, HN.out⟩
          · obtain ⟨k, rfl⟩ : ∃ j, k = j + 1 := ⟨k - 1, by omega⟩
            rw [Nat.add_sub_cancel] at q0 q1
            have hw1 : IntKind.i64.wrap (((k + 1 : Nat) : Int) - 1) = (k : Nat) := by rw [show ((k + 1 : Nat) : Int) - 1 = (k : Nat) by omega]; exact IntWalk.i64_in _ (by omega)
            have hk3 : (0 : Int) < ((k + 1 : Nat) : Int) := by omega
            have hk4 : (0 : Int) ≤ ((k : Nat) : Int) := by omega
            have hk5 : ((k : Nat) : Int) < (n : Nat) := by omega
            cases kl : Pl.lessB z.Name x.Name
            · have kl' : Op.bytesLess z.Name.toList x.Name.toList = false := kl
              have HV := Lib.hid (NO.out (by unfold Pl.labQ; unfold Pl.labelOk; rw [k1, k2]; rw [kl]; rfl))
              clear NO HP
              go_wp2
              refine wp_region_und (by kernel_rfl) (by kernel_rfl) ?_
              repeat (go_big_quiet_step ((first | (go_at_call 96; first | (with_reducible exact CN _) | (with_reducible exact CV _)))))
              refine wpQuiet_nil ?_
              intro X hX
              have hbx := Lib.hid (below_step HBL.out (below_step (below_new (Below.refl _ _) _) hX))
              go_wp2
              go_ret
              exact ⟨ret_bool HV.out.symm, hbx.out⟩
            · skip
              have kl' : Op.bytesLess z.Name.toList x.Name.toList = true := kl
              have HN := Lib.hid (Pl.snocB HU.out (by rw [HP.out]; unfold Pl.labQ; unfold Pl.labelOk; rw [k1, k2]; rw [kl]; simp))
              clear NO HP
              go_wp2
              refine wp_region_und (by kernel_rfl) (by kernel_rfl) ?_
              repeat (go_big_quiet_step ((first | (go_at_call 96; first | (with_reducible exact CN _) | (with_reducible exact CV _)))))
              refine wpQuiet_nil ?_
              intro X hX
              have hbx := Lib.hid (below_step HBL.out (below_step (below_new (Below.refl _ _) _) hX))
              go_wp2
              go_roundg (n - (k + 1 + 1))
              case measure => omega
              case rel => exact ⟨hbx.out, k + 1 + 1, Nat.le_refl _, by omega, by go_num, HN.out⟩
    · have HF : Hid (Pl.labelsOk l = decide (n ≤ 6)) := by
        show _ = _
        unfold Pl.labelsOk
        rw [Pl.allB_yes (fun j hj => HU.out j (by rw [hlen.out] at hj; omega)), hlen.out]
        rfl
      obtain rfl : k = n := by omega
      go_wp2
      go_ret
      exact ⟨ret_bool (by rw [HF.out]; exact decide_eq_decide.2 (by omega)), HBL.out⟩
--%endlabs
end Go.Proofs.Ytnppcdiicnofpaa

/-
  Contracts: the texts of labels. No conditions.
-/
namespace Go.Proofs.Ytnppcdiicnofpaa
open Go.RowKit
attribute [local go_sem] und_cell World.cell?_alloc_some
theorem Pl.labS_zero (l : List Label) : (⟨#[123]⟩ : ByteArray) = ⟨(123 :: Pl.labBody (l.take 0)).toArray⟩ := rfl
theorem Pl.labS_one {l : List Label} {x : Label} (h : l[0]? = some x) : (⟨#[123]⟩ : ByteArray) ++ (x.Name ++ ⟨#[61]⟩ ++ x.Value) = ⟨(123 :: Pl.labBody (l.take (0 + 1))).toArray⟩ := by
  refine Pl.ba_ext ?_
  rw [Pl.labBody_next h, if_pos rfl]
  simp [ByteArray.data_append, Pl.labTxt]
theorem Pl.labS_next {l : List Label} {k : Nat} {x : Label} (h : l[k]? = some x) (hk : k ≠ 0) : (⟨(123 :: Pl.labBody (l.take k)).toArray⟩ : ByteArray) ++ ⟨#[44]⟩ ++ (x.Name ++ ⟨#[61]⟩ ++ x.Value) = ⟨(123 :: Pl.labBody (l.take (k + 1))).toArray⟩ := by
  refine Pl.ba_ext ?_
  rw [Pl.labBody_next h, if_neg hk]
  simp [ByteArray.data_append, Pl.labTxt]
theorem Pl.labelOk_sz {x : Label} (h : Pl.labelOk x = true) : 1 ≤ x.Name.size ∧ x.Name.size ≤ 8 ∧ 1 ≤ x.Value.size ∧ x.Value.size ≤ 8 := by
  unfold Pl.labelOk at h
  rw [Bool.and_eq_true] at h
  have h1 := Pl.word_len h.1
  have h2 := Pl.word_len h.2
  exact ⟨h1.1, h1.2, h2.1, h2.2⟩
set_option maxRecDepth 100000 in
set_option maxHeartbeats 1000000 in
theorem l3Text_c (l : List Label) (A : Option Addr) (n c : Nat) (w : World) (B : Nat) (hl : Mm.SlAt rLabel w B l A n c) (hB : B ≤ w.heap.size) (hok : Pl.labelsOk l = true) :
    Calls Try.prog 76 #[.slice A n c] w fun e w' => e = .returned (.string (Pl.labelsText l)) ∧ Below w.heap.size w w' := by
  have hlen : Hid (l.length = n) := hl.1
  have hn : n ≤ maxLen := Nat.le_trans hl.2.1 hl.2.2.1
  unfold maxLen at hn
  have HL := Lib.hid hl
  have HOK := Lib.hid hok
  clear hl hok
  go_enter Try.func76, Try.ntmps76
  go_wp2
  go_loopg [3, 8] n (fun g s i wr => Below w.heap.size w wr ∧ ∃ k : Nat, n - k ≤ g ∧ k ≤ n ∧ i = .int .i64 k ∧ ∃ sb : ByteArray, s = .string sb ∧ sb.size ≤ 18 * k + 1 ∧ Hid (sb = ⟨(123 :: Pl.labBody (l.take k)).toArray⟩))
  case atStart => exact ⟨Below.refl _ _, 0, Nat.le_refl _, Nat.zero_le _, rfl, _, rfl, Nat.le_refl _, rfl⟩
  case round =>
    obtain ⟨hbel, k, hgk, hk, rfl, sb, rfl, hsb, HSB⟩ := hrel
    have hn6 := Pl.labelsOk_len HOK.out
    have hnn := hlen.out
    obtain ⟨W, rfl⟩ : ∃ W : World, W = wr := ⟨_, rfl⟩
    have HLw := Lib.hid (HL.out.keep fun b hb' => hbel.block b (Nat.lt_of_lt_of_le hb' hB))
    have HBL := Lib.hid hbel
    clear hbel
    by_cases hlt : k < n
    · obtain ⟨x, b0, off, hx, rfl, hbb, g0, g1, d0, d1⟩ := rLabel_get HLw.out hlt
      have hlt' : (k : Int) < (n : Nat) := by omega
      have hlt2 : (0 : Int) ≤ (k : Nat) := by omega
      have HX := Lib.hid hx
      have hnz := Pl.labelOk_sz (Pl.labelsOk_at HOK.out hx)
      obtain ⟨z1, z2, z3, z4⟩ := hnz
      clear hx
      by_cases hk0 : k = 0
      · subst hk0
        simp only [Nat.zero_mul, Nat.add_zero] at d0 d1
        go_wp2
        go_roundg (n - (0 + 1))
        case measure => omega
        case rel => exact ⟨below_step HBL.out (below_new (Below.refl _ _) _), 0 + 1, Nat.le_refl _, by omega, by go_num, _, rfl, by have y1 : (⟨#[61]⟩ : ByteArray).size = 1 := rfl; have y2 : (⟨#[44]⟩ : ByteArray).size = 1 := rfl; simp only [ByteArray.size_append]; omega, by show _ = _; rw [HSB.out, ← Pl.labS_one HX.out]; rfl⟩
      · have hk1 : (0 : Int) < (k : Nat) := by omega
        have HK := Lib.hid hk0
        clear hk0
        go_wp2
        go_roundg (n - (k + 1))
        case measure => omega
        case rel => exact ⟨below_step HBL.out (below_new (Below.refl _ _) _), k + 1, Nat.le_refl _, by omega, by go_num, _, rfl, by have y1 : (⟨#[61]⟩ : ByteArray).size = 1 := rfl; have y2 : (⟨#[44]⟩ : ByteArray).size = 1 := rfl; simp only [ByteArray.size_append]; omega, by show _ = _; rw [HSB.out, ← Pl.labS_next HX.out HK.out]⟩
    · obtain rfl : k = n := by omega
      have HT : Hid (l.take k = l) := List.take_of_length_le (by rw [hlen.out]; exact Nat.le_refl _)
      have hlt' : ¬ (k : Int) < (k : Nat) := by omega
      go_wp2
      go_ret
      exact ⟨by rw [HSB.out, HT.out, show Pl.labelsText l = (⟨(123 :: Pl.labBody l).toArray⟩ : ByteArray) ++ ⟨#[125]⟩ from Pl.ba_ext (by simp [ByteArray.data_append, Pl.labelsText])]; rfl, HBL.out⟩
def Pl.labB (x : Label) : ByteArray := ⟨(Pl.labTxt x).toArray⟩
theorem Pl.labB_of (x : Label) : x.Name ++ (⟨#[61]⟩ : ByteArray) ++ x.Value = Pl.labB x := Pl.ba_ext (by simp [ByteArray.data_append, Pl.labTxt, Pl.labB])
def Pl.pcells (l : List Label) (n k : Nat) : List Value := ((l.take k).map fun x => Value.string (Pl.labB x)) ++ List.replicate (n - k) (.string ⟨#[]⟩)
theorem Pl.pcells_set {l : List Label} {n k : Nat} {x : Label} (hx : l[k]? = some x) (hn : l.length = n) : (Pl.pcells l n k).set k (.string (Pl.labB x)) = Pl.pcells l n (k + 1) := by
  obtain ⟨hk, hg⟩ := List.getElem?_eq_some_iff.1 hx
  unfold Pl.pcells
  have h1 : ((l.take k).map fun x => Value.string (Pl.labB x)).length = k := by rw [List.length_map, List.length_take]; omega
  rw [List.set_append_right _ _ (by omega), h1, Nat.sub_self, show n - k = (n - (k + 1)) + 1 by omega, List.replicate_succ, List.set_cons_zero, List.take_succ_eq_append_getElem hk, hg, List.map_append, List.append_assoc]
  rfl
theorem Pl.pcells_get {l : List Label} {n k : Nat} (hn : l.length = n) (hk : k < n) : ∃ u, (Pl.pcells l n k)[k]? = some u := by
  refine ⟨_, List.getElem?_eq_getElem ?_⟩
  unfold Pl.pcells
  rw [List.length_append, List.length_map, List.length_take, List.length_replicate]
  omega
theorem Pl.pcells_end {l : List Label} {n : Nat} (hn : l.length = n) {j : Nat} {x : Label} (hx : l[j]? = some x) : (Pl.pcells l n n)[j]? = some (.string (Pl.labB x)) := by
  unfold Pl.pcells
  rw [List.take_of_length_le (by omega), Nat.sub_self, List.replicate_zero, List.append_nil, List.getElem?_map, hx]
  rfl
theorem join_c (l : List Label) (g c : Nat) (w : World) (hc : ∀ (j : Nat) x, l[j]? = some x → w.cell? ⟨g, j, none⟩ = some (.string (Pl.labB x))) (hg : g < w.heap.size) (hlc : l.length ≤ c) (hok : Pl.labelsOk l = true) :
    Calls Try.prog 100 #[.slice (some ⟨g, 0, none⟩) l.length c, .string ⟨#[44]⟩] w fun e w' => e = .returned (.string ⟨(Pl.labBody l).toArray⟩) ∧ Below w.heap.size w w' := by
  have h6 := Pl.labelsOk_len hok
  have hb := Pl.labBody_len hok
  have e1 : (l.map Pl.labB).map (·.data.toList) = l.map Pl.labTxt := by rw [List.map_map]; rfl
  have := Any.strings_Join ljJoin ljX g 0 c (l.map Pl.labB) ⟨#[44]⟩ w (fun j x hx => by
    rw [List.getElem?_map] at hx
    cases hj : l[j]? with
    | none => rw [hj] at hx; cases hx
    | some y => rw [hj] at hx; injection hx with hx; subst hx; rw [Nat.zero_add]; exact hc j y hj) hg (by rw [List.length_map]; omega) (by rw [List.length_map]; exact hlc) (by rw [e1]; exact Nat.le_trans hb (by decide))
  rw [e1, List.length_map] at this
  exact this
theorem upto6z {p : Nat → Prop} (h0 : p 0) (h1 : p 1) (h2 : p 2) (h3 : p 3) (h4 : p 4) (h5 : p 5) (h6 : p 6) (n : Nat) (b : n ≤ 6) : p n := by
  have : n = 0 ∨ n = 1 ∨ n = 2 ∨ n = 3 ∨ n = 4 ∨ n = 5 ∨ n = 6 := by omega
  rcases this with rfl | rfl | rfl | rfl | rfl | rfl | rfl <;> assumption
theorem make_strs6 (n : Nat) (h6 : n ≤ 6) (W : World) : (Instr.makeSlice 41 (.int .i64 n) (.int .i64 n)).run Try.prog W = .ok (.slice (some ⟨W.heap.size, 0, none⟩) n n) (W.alloc (.cells (List.replicate n (.string ⟨#[]⟩)).toArray 9)) :=
  upto6z (p := fun n => (Instr.makeSlice 41 (.int .i64 n) (.int .i64 n)).run Try.prog W = .ok (.slice (some ⟨W.heap.size, 0, none⟩) n n) (W.alloc (.cells (List.replicate n (.string ⟨#[]⟩)).toArray 9))) (by kernel_rfl) (by kernel_rfl) (by kernel_rfl) (by kernel_rfl) (by kernel_rfl) (by kernel_rfl) (by kernel_rfl) n h6
set_option maxRecDepth 100000 in
set_option maxHeartbeats 1000000 in
theorem labelsText_c (l : List Label) (A : Option Addr) (n c : Nat) (w : World) (B : Nat) (hl : Mm.SlAt rLabel w B l A n c) (hB : B ≤ w.heap.size) (hok : Pl.labelsOk l = true) :
    Calls Try.prog 78 #[.slice A n c] w fun e w' => e = .returned (.string (Pl.labelsText l)) ∧ Below w.heap.size w w' := by
  have hlen : Hid (l.length = n) := hl.1
  have hn : n ≤ maxLen := Nat.le_trans hl.2.1 hl.2.2.1
  have hn6 : n ≤ 6 := by have := Pl.labelsOk_len hok; have := hlen.out; omega
  unfold maxLen at hn
  have HL := Lib.hid hl
  have HOK := Lib.hid hok
  have hmk := make_strs6 n hn6
  have HS0 := Lib.hid (show Mm.SepF [] w _ [Mm.tblk w.heap.size 9 (Pl.pcells l n 0)] from (Mm.SepF.start w).alloc' rfl 9 (List.replicate n (.string ⟨#[]⟩)))
  clear hl hok
  go_enter Try.func78, Try.ntmps78
  go_wp2
  go_loopg [11] n (fun g i wr => ∃ k : Nat, n - k ≤ g ∧ k ≤ n ∧ i = .int .i64 k ∧ Hid (Mm.SepF [] w wr [Mm.tblk w.heap.size 9 (Pl.pcells l n k)]))
  case atStart => exact ⟨0, Nat.le_refl _, Nat.zero_le _, rfl, HS0.out⟩
  case round =>
    clear HS0 hmk
    obtain ⟨k, hgk, hk, rfl, HS⟩ := hrel
    obtain ⟨W, rfl⟩ : ∃ W : World, W = wr := ⟨_, rfl⟩
    have HLw := Lib.hid (HL.out.keep fun b hb' => HS.out.bel0.block b (Nat.lt_of_lt_of_le hb' hB))
    by_cases hlt : k < n
    · obtain ⟨x, b0, off, hx, rfl, hbb, g0, g1, d0, d1⟩ := rLabel_get HLw.out hlt
      have hlt' : (k : Int) < (n : Nat) := by omega
      have hlt2 : (0 : Int) ≤ (k : Nat) := by omega
      obtain ⟨z1, z2, z3, z4⟩ := Pl.labelOk_sz (Pl.labelsOk_at HOK.out hx)
      obtain ⟨u0, hu0⟩ := Pl.pcells_get hlen.out hlt
      have s0 := HS.out.cell 0 rfl hu0
      have s1 := HS.out.frz (k := k) 0 rfl
      have HX := Lib.hid hx
      have HS2 := Lib.hid ((HS.out.setBlk (k := k) 0 rfl (.string (x.Name ++ (⟨#[61]⟩ : ByteArray) ++ x.Value))).step (below_new (Below.refl _ _) (.cells #[.string x.Name, .string x.Value] 97)))
      have hgw : w.heap.size < W.heap.size := (HS.out.blk 0 rfl).1
      clear hx hu0
      go_wp2
      go_roundg (n - (k + 1))
      case measure => omega
      case rel => exact ⟨k + 1, Nat.le_refl _, by omega, by go_num, by rw [← Pl.pcells_set HX.out hlen.out, ← Pl.labB_of]; exact HS2.out⟩
    · obtain rfl : k = n := by omega
      have hlt' : ¬ (k : Int) < (k : Nat) := by omega
      have HB0 := Lib.hid HS.out.bel0
      have hln := hlen.out
      have HJ := Lib.hid (join_c l w.heap.size k W (fun j x hx => HS.out.cell 0 rfl (Pl.pcells_end hlen.out hx)) (HS.out.blk 0 rfl).1 (by omega) HOK.out)
      rw [hln] at HJ
      have hbl := Pl.labBody_len HOK.out
      obtain ⟨tb, htb⟩ : ∃ tb : ByteArray, tb = ⟨(Pl.labBody l).toArray⟩ := ⟨_, rfl⟩
      have hts : tb.size ≤ 108 := by rw [htb]; exact hbl
      rw [← htb] at HJ
      have HTB := Lib.hid htb
      clear htb hln
      go_wp2_with (go_at_call 100; (with_reducible refine HJ.out.mono ?_); rintro e w1 ⟨rfl, hb1⟩)
      go_ret
      exact ⟨by rw [HTB.out, show Pl.labelsText l = (⟨#[123]⟩ : ByteArray) ++ ⟨(Pl.labBody l).toArray⟩ ++ ⟨#[125]⟩ from Pl.ba_ext (by simp [ByteArray.data_append, Pl.labelsText])]; rfl, below_step HB0.out hb1⟩
end Go.Proofs.Ytnppcdiicnofpaa

/-
  Contracts: which totals are good. No conditions.
-/
namespace Go.Proofs.Ytnppcdiicnofpaa
open Go.RowKit
attribute [local go_sem] und_cell World.cell?_alloc_some
theorem nblk1 (w : World) (o : Obj) : (w.alloc o).heap.size = w.heap.size + 1 := by show (w.heap.push o).size = _; simp
theorem Mm.SlAt.alloc' {α : Type} {E : Mm.Rep α} {w : World} {B : Nat} {xs : List α} {A : Option Addr} {n c : Nat} (h : Mm.SlAt E w B xs A n c) (hB : B ≤ w.heap.size) (o : Obj) : Mm.SlAt E (w.alloc o) B xs A n c :=
  h.keep fun b hb => (below_new (Below.refl _ _) o).block b (by omega)
set_option maxRecDepth 100000 in
set_option maxHeartbeats 4000000 in
theorem areTotals_c (l : List Total) (A : Option Addr) (n c : Nat) (w : World) (B : Nat) (hl : Mm.SlAt rTotal w B l A n c) (hB : B ≤ w.heap.size) :
    Calls Try.prog 51 #[.slice A n c] w fun e w' => e = .returned (.bool (Pl.totalsOk l)) ∧ Below w.heap.size w w' := by
  have hlen : Hid (l.length = n) := hl.1
  have hn : n ≤ maxLen := Nat.le_trans hl.2.1 hl.2.2.1
  unfold maxLen at hn
  have HL := Lib.hid hl
  clear hl
  go_enter Try.func51, Try.ntmps51
  go_wp2
  go_loopg [7] n (fun g i wr => Below w.heap.size w wr ∧ ∃ k : Nat, n - k ≤ g ∧ k ≤ n ∧ i = .int .i64 k ∧ Hid (∀ j, j < k → Pl.totP l j = true))
  case atStart => exact ⟨Below.refl _ _, 0, Nat.le_refl _, Nat.zero_le _, rfl, fun j hj => absurd hj (Nat.not_lt_zero j)⟩
  case round =>
    obtain ⟨hbel, k, hgk, hk, rfl, HU⟩ := hrel
    obtain ⟨W, rfl⟩ : ∃ W : World, W = wr := ⟨_, rfl⟩
    have HLw := Lib.hid (HL.out.keep fun b hb' => hbel.block b (Nat.lt_of_lt_of_le hb' hB))
    have HBL := Lib.hid hbel
    have hsw := hbel.size
    clear hbel
    by_cases hlt : k < n
    · obtain ⟨x, b0, off, A1, n1, c1, hx, rfl, hbb, hlx, g1, g2, g3, g4, d0, d1, d2, d3, d4⟩ := rTotal_get HLw.out hlt
      obtain ⟨z, A2, n2, c2, hz, -, hlz, -, -, -, -, q0, -⟩ := rTotal_get' HLw.out (show k - 1 < n by omega)
      have HP : Hid (Pl.totP l k = Pl.totQ k x z) := by show _ = _; unfold Pl.totP; rw [Pl.totAt_of hx, Pl.totAt_of hz]
      have NO : Hid (Pl.totQ k x z = false → Pl.totalsOk l = false) := fun h => by
        unfold Pl.totalsOk; rw [Pl.allB_no (by rw [hlen.out]; exact hlt) (by rw [HP.out, h])]; rfl
      have HZ : Hid (k ≠ 0 → Pl.labelsOk z.Labels = true) := fun h0 => by
        have h1 := HU.out (k - 1) (by omega)
        unfold Pl.totP Pl.totQ at h1
        rw [Pl.totAt_of hz, Bool.and_eq_true] at h1
        exact Pl.totOk_lab h1.1
      clear hx hz
      obtain ⟨xL, xS, xC, xA, xM⟩ := x
      obtain ⟨zL, zS, zC, zA, zM⟩ := z
      dsimp only at hlx g1 g2 g3 g4 d0 d1 d2 d3 d4 hlz q0
      have HLX := Lib.hid hlx
      have HLZ := Lib.hid hlz
      clear hlx hlz
      have hlt' : (k : Int) < (n : Nat) := by omega
      have hlt2 : (0 : Int) ≤ (k : Nat) := by omega
      have CA := fun q : Und (W.alloc (.cells #[.slice A1 n1 c1, .int .i64 xS, .int .i64 xC, .int .i64 xA, .int .i64 xM] 50)) => und_call q (areLabels_c xL A1 n1 c1 _ B ((HLX.out.alloc' (by omega) _).und (by have := nblk1 W (.cells #[.slice A1 n1 c1, .int .i64 xS, .int .i64 xC, .int .i64 xA, .int .i64 xM] 50); omega) q) (Nat.le_trans (by have := nblk1 W (.cells #[.slice A1 n1 c1, .int .i64 xS, .int .i64 xC, .int .i64 xA, .int .i64 xM] 50); omega) (und_size q)))
      have CC := fun q : Und (W.alloc (.cells #[.slice A1 n1 c1, .int .i64 xS, .int .i64 xC, .int .i64 xA, .int .i64 xM] 50)) => und_same q (within_c xC 1 1000 _)
      have CS := fun q : Und (W.alloc (.cells #[.slice A1 n1 c1, .int .i64 xS, .int .i64 xC, .int .i64 xA, .int .i64 xM] 50)) => und_same q (within_c xS (-1000000000) 1000000000 _)
      have CL := fun q : Und (W.alloc (.cells #[.slice A1 n1 c1, .int .i64 xS, .int .i64 xC, .int .i64 xA, .int .i64 xM] 50)) => und_same q (within_c xA (-1000000) xM _)
      cases k1 : Pl.labelsOk xL
      · have HV := Lib.hid (NO.out (by unfold Pl.totQ Pl.totOk; dsimp only; rw [k1]; simp))
        clear NO HP HZ
        go_wp2
        refine wp_region_und (by kernel_rfl) (by kernel_rfl) ?_
        repeat (go_big_quiet_step ((first | first | (go_at_call 70; with_reducible exact CA _) | (go_at_call 52; first | (with_reducible exact CC _) | (with_reducible exact CS _) | (with_reducible exact CL _)))))
        refine wpQuiet_nil ?_
        intro X hX
        have hbx := Lib.hid (below_step HBL.out (below_step (below_new (Below.refl _ _) _) hX))
        go_wp2
        go_ret
        exact ⟨ret_bool HV.out.symm, hbx.out⟩
      cases k2 : Pl.isIn xC 1 1000
      · have HV := Lib.hid (NO.out (by unfold Pl.totQ Pl.totOk; dsimp only; rw [k1, k2]; simp))
        clear NO HP HZ
        go_wp2
        refine wp_region_und (by kernel_rfl) (by kernel_rfl) ?_
        repeat (go_big_quiet_step ((first | first | (go_at_call 70; with_reducible exact CA _) | (go_at_call 52; first | (with_reducible exact CC _) | (with_reducible exact CS _) | (with_reducible exact CL _)))))
        refine wpQuiet_nil ?_
        intro X hX
        have hbx := Lib.hid (below_step HBL.out (below_step (below_new (Below.refl _ _) _) hX))
        go_wp2
        go_ret
        exact ⟨ret_bool HV.out.symm, hbx.out⟩
      cases k3 : Pl.isIn xS (-1000000000) 1000000000
      · have HV := Lib.hid (NO.out (by unfold Pl.totQ Pl.totOk; dsimp only; rw [k1, k2, k3]; simp))
        clear NO HP HZ
        go_wp2
        refine wp_region_und (by kernel_rfl) (by kernel_rfl) ?_
        repeat (go_big_quiet_step ((first | first | (go_at_call 70; with_reducible exact CA _) | (go_at_call 52; first | (with_reducible exact CC _) | (with_reducible exact CS _) | (with_reducible exact CL _)))))
        refine wpQuiet_nil ?_
        intro X hX
        have hbx := Lib.hid (below_step HBL.out (below_step (below_new (Below.refl _ _) _) hX))
        go_wp2
        go_ret
        exact ⟨ret_bool HV.out.symm, hbx.out⟩
      cases k4 : Pl.isIn xA (-1000000) xM
      · have HV := Lib.hid (NO.out (by unfold Pl.totQ Pl.totOk; dsimp only; rw [k1, k2, k3, k4]; simp))
        clear NO HP HZ
        go_wp2
        refine wp_region_und (by kernel_rfl) (by kernel_rfl) ?_
        repeat (go_big_quiet_step ((first | first | (go_at_call 70; with_reducible exact CA _) | (go_at_call 52; first | (with_reducible exact CC _) | (with_reducible exact CS _) | (with_reducible exact CL _)))))
        refine wpQuiet_nil ?_
        intro X hX
        have hbx := Lib.hid (below_step HBL.out (below_step (below_new (Below.refl _ _) _) hX))
        go_wp2
        go_ret
        exact ⟨ret_bool HV.out.symm, hbx.out⟩
      by_cases k5 : 1000000 < xM
      · have k6 : decide (xM ≤ 1000000) = false := decide_eq_false (by omega)
        have k7 : decide (1000000 < xM) = true := decide_eq_true k5
        have HV := Lib.hid (NO.out (by unfold Pl.totQ Pl.totOk; dsimp only; rw [k1, k2, k3, k4, k6]; rfl))
        clear NO HP HZ
        go_wp2
        refine wp_region_und (by kernel_rfl) (by kernel_rfl) ?_
        repeat (go_big_quiet_step ((first | first | (go_at_call 70; with_reducible exact CA _) | (go_at_call 52; first | (with_reducible exact CC _) | (with_reducible exact CS _) | (with_reducible exact CL _)))))
        refine wpQuiet_nil ?_
        intro X hX
        have hbx := Lib.hid (below_step HBL.out (below_step (below_new (Below.refl _ _) _) hX))
        go_wp2
        go_ret
        exact ⟨ret_bool HV.out.symm, hbx.out⟩
      have k6 : decide (xM ≤ 1000000) = true := decide_eq_true (by omega)
      have k7 : decide (1000000 < xM) = false := decide_eq_false k5
      by_cases hk0 : k = 0
      · subst hk0
        clear q0
        simp only [Nat.zero_mul, Nat.add_zero] at d0 d1 d2 d3 d4
        have HN := Lib.hid (Pl.snocB HU.out (by rw [HP.out]; unfold Pl.totQ Pl.totOk; dsimp only; rw [k1, k2, k3, k4, k6]; rfl))
        clear NO HP HZ
        go_wp2
        refine wp_region_und (by kernel_rfl) (by kernel_rfl) ?_
        repeat (go_big_quiet_step ((first | first | (go_at_call 70; with_reducible exact CA _) | (go_at_call 52; first | (with_reducible exact CC _) | (with_reducible exact CS _) | (with_reducible exact CL _)))))
        refine wpQuiet_nil ?_
        intro X hX
        have hbx := Lib.hid (below_step HBL.out (below_step (below_new (Below.refl _ _) _) hX))
        go_wp2
        go_roundg (n - (0 + 1))
        case measure => omega
        case rel => exact ⟨hbx.out, 0 + 1, Nat.le_refl _, by omega, by go_num, HN.out⟩
      · obtain ⟨k, rfl⟩ : ∃ j, k = j + 1 := ⟨k - 1, by omega⟩
        rw [Nat.add_sub_cancel] at q0
        have hw1 : IntKind.i64.wrap (((k + 1 : Nat) : Int) - 1) = (k : Nat) := by rw [show ((k + 1 : Nat) : Int) - 1 = (k : Nat) by omega]; exact IntWalk.i64_in _ (by omega)
        have hk3 : (0 : Int) < ((k + 1 : Nat) : Int) := by omega
        have hk4 : (0 : Int) ≤ ((k : Nat) : Int) := by omega
        have hk5 : ((k : Nat) : Int) < (n : Nat) := by omega
        have CX := fun q : Und (W.alloc (.cells #[.slice A1 n1 c1, .int .i64 xS, .int .i64 xC, .int .i64 xA, .int .i64 xM] 50)) => und_call q (labelsText_c xL _ _ _ _ B ((HLX.out.alloc' (by omega) _).und (by have := nblk1 W (.cells #[.slice A1 n1 c1, .int .i64 xS, .int .i64 xC, .int .i64 xA, .int .i64 xM] 50); omega) q) (Nat.le_trans (by have := nblk1 W (.cells #[.slice A1 n1 c1, .int .i64 xS, .int .i64 xC, .int .i64 xA, .int .i64 xM] 50); omega) (und_size q)) k1)
        obtain ⟨tx, htx⟩ : ∃ t, Pl.labelsText xL = t := ⟨_, rfl⟩
        rw [htx] at CX
        have CZ := fun q : Und (W.alloc (.cells #[.slice A1 n1 c1, .int .i64 xS, .int .i64 xC, .int .i64 xA, .int .i64 xM] 50)) => und_call q (labelsText_c zL _ _ _ _ B ((HLZ.out.alloc' (by omega) _).und (by have := nblk1 W (.cells #[.slice A1 n1 c1, .int .i64 xS, .int .i64 xC, .int .i64 xA, .int .i64 xM] 50); omega) q) (Nat.le_trans (by have := nblk1 W (.cells #[.slice A1 n1 c1, .int .i64 xS, .int .i64 xC, .int .i64 xA, .int .i64 xM] 50); omega) (und_size q)) (HZ.out (by omega)))
        obtain ⟨tz, htz⟩ : ∃ t, Pl.labelsText zL = t := ⟨_, rfl⟩
        rw [htz] at CZ
        have HTX := Lib.hid htx
        have HTZ := Lib.hid htz
        clear htx htz
        cases kl : Pl.lessB tz tx
        · have kl' : Op.bytesLess tz.toList tx.toList = false := kl
          have HV := Lib.hid (NO.out (by unfold Pl.totQ Pl.totOk; dsimp only; rw [k1, k2, k3, k4, k6]; rw [HTZ.out, HTX.out, kl]; rfl))
          clear NO HP HZ
          go_wp2
          refine wp_region_und (by kernel_rfl) (by kernel_rfl) ?_
          repeat (go_big_quiet_step ((first | first | (go_at_call 70; with_reducible exact CA _) | (go_at_call 52; first | (with_reducible exact CC _) | (with_reducible exact CS _) | (with_reducible exact CL _)) | (go_at_call 78; first | (with_reducible exact CX _) | (with_reducible exact CZ _)))))
          refine wpQuiet_nil ?_
          intro X hX
          have hbx := Lib.hid (below_step HBL.out (below_step (below_new (Below.refl _ _) _) hX))
          go_wp2
          go_ret
          exact ⟨ret_bool HV.out.symm, hbx.out⟩
        · have kl' : Op.bytesLess tz.toList tx.toList = true := kl
          have HN := Lib.hid (Pl.snocB HU.out (by rw [HP.out]; unfold Pl.totQ Pl.totOk; dsimp only; rw [k1, k2, k3, k4, k6]; rw [HTZ.out, HTX.out, kl]; simp))
          clear NO HP HZ
          go_wp2
          refine wp_region_und (by kernel_rfl) (by kernel_rfl) ?_
          repeat (go_big_quiet_step ((first | first | (go_at_call 70; with_reducible exact CA _) | (go_at_call 52; first | (with_reducible exact CC _) | (with_reducible exact CS _) | (with_reducible exact CL _)) | (go_at_call 78; first | (with_reducible exact CX _) | (with_reducible exact CZ _)))))
          refine wpQuiet_nil ?_
          intro X hX
          have hbx := Lib.hid (below_step HBL.out (below_step (below_new (Below.refl _ _) _) hX))
          go_wp2
          go_roundg (n - (k + 1 + 1))
          case measure => omega
          case rel => exact ⟨hbx.out, k + 1 + 1, Nat.le_refl _, by omega, by go_num, HN.out⟩
    · have HF : Hid (Pl.totalsOk l = decide (n ≤ 40)) := by
        show _ = _
        unfold Pl.totalsOk
        rw [Pl.allB_yes (fun j hj => HU.out j (by rw [hlen.out] at hj; omega)), hlen.out]
        rfl
      obtain rfl : k = n := by omega
      go_wp2
      go_ret
      exact ⟨ret_bool (by rw [HF.out]; exact decide_eq_decide.2 (by omega)), HBL.out⟩
set_option maxRecDepth 100000 in
set_option maxHeartbeats 4000000 in
theorem GoodTotals_c (l : List Total) (A : Option Addr) (n c : Nat) (w : World) (B : Nat) (hl : Mm.SlAt rTotal w B l A n c) (hB : B ≤ w.heap.size) :
    Calls Try.prog 47 #[.slice A n c] w fun e w' => e = .returned (.bool (Pl.totalsOk l)) ∧ Below w.heap.size w w' := by
  have hlen : Hid (l.length = n) := hl.1
  have hn : n ≤ maxLen := Nat.le_trans hl.2.1 hl.2.2.1
  unfold maxLen at hn
  have HL := Lib.hid hl
  clear hl
  go_enter Try.func47, Try.ntmps47
  go_wp2
  go_loopg [7] n (fun g i wr => Below w.heap.size w wr ∧ ∃ k : Nat, n - k ≤ g ∧ k ≤ n ∧ i = .int .i64 k ∧ Hid (∀ j, j < k → Pl.totP l j = true))
  case atStart => exact ⟨Below.refl _ _, 0, Nat.le_refl _, Nat.zero_le _, rfl, fun j hj => absurd hj (Nat.not_lt_zero j)⟩
  case round =>
    obtain ⟨hbel, k, hgk, hk, rfl, HU⟩ := hrel
    obtain ⟨W, rfl⟩ : ∃ W : World, W = wr := ⟨_, rfl⟩
    have HLw := Lib.hid (HL.out.keep fun b hb' => hbel.block b (Nat.lt_of_lt_of_le hb' hB))
    have HBL := Lib.hid hbel
    have hsw := hbel.size
    clear hbel
    by_cases hlt : k < n
    · obtain ⟨x, b0, off, A1, n1, c1, hx, rfl, hbb, hlx, g1, g2, g3, g4, d0, d1, d2, d3, d4⟩ := rTotal_get HLw.out hlt
      obtain ⟨z, A2, n2, c2, hz, -, hlz, -, -, -, -, q0, -⟩ := rTotal_get' HLw.out (show k - 1 < n by omega)
      have HP : Hid (Pl.totP l k = Pl.totQ k x z) := by show _ = _; unfold Pl.totP; rw [Pl.totAt_of hx, Pl.totAt_of hz]
      have NO : Hid (Pl.totQ k x z = false → Pl.totalsOk l = false) := fun h => by
        unfold Pl.totalsOk; rw [Pl.allB_no (by rw [hlen.out]; exact hlt) (by rw [HP.out, h])]; rfl
      have HZ : Hid (k ≠ 0 → Pl.labelsOk z.Labels = true) := fun h0 => by
        have h1 := HU.out (k - 1) (by omega)
        unfold Pl.totP Pl.totQ at h1
        rw [Pl.totAt_of hz, Bool.and_eq_true] at h1
        exact Pl.totOk_lab h1.1
      clear hx hz
      obtain ⟨xL, xS, xC, xA, xM⟩ := x
      obtain ⟨zL, zS, zC, zA, zM⟩ := z
      dsimp only at hlx g1 g2 g3 g4 d0 d1 d2 d3 d4 hlz q0
      have HLX := Lib.hid hlx
      have HLZ := Lib.hid hlz
      clear hlx hlz
      have hlt' : (k : Int) < (n : Nat) := by omega
      have hlt2 : (0 : Int) ≤ (k : Nat) := by omega
      have CA := fun q : Und (W.alloc (.cells #[.slice A1 n1 c1, .int .i64 xS, .int .i64 xC, .int .i64 xA, .int .i64 xM] 50)) => und_call q (GoodLabels_c xL A1 n1 c1 _ B ((HLX.out.alloc' (by omega) _).und (by have := nblk1 W (.cells #[.slice A1 n1 c1, .int .i64 xS, .int .i64 xC, .int .i64 xA, .int .i64 xM] 50); omega) q) (Nat.le_trans (by have := nblk1 W (.cells #[.slice A1 n1 c1, .int .i64 xS, .int .i64 xC, .int .i64 xA, .int .i64 xM] 50); omega) (und_size q)))
      have CC := fun q : Und (W.alloc (.cells #[.slice A1 n1 c1, .int .i64 xS, .int .i64 xC, .int .i64 xA, .int .i64 xM] 50)) => und_same q (l1In_c xC 1 1000 _)
      have CS := fun q : Und (W.alloc (.cells #[.slice A1 n1 c1, .int .i64 xS, .int .i64 xC, .int .i64 xA, .int .i64 xM] 50)) => und_same q (l1In_c xS (-1000000000) 1000000000 _)
      have CL := fun q : Und (W.alloc (.cells #[.slice A1 n1 c1, .int .i64 xS, .int .i64 xC, .int .i64 xA, .int .i64 xM] 50)) => und_same q (l1In_c xA (-1000000) xM _)
      cases k1 : Pl.labelsOk xL
      · have HV := Lib.hid (NO.out (by unfold Pl.totQ Pl.totOk; dsimp only; rw [k1]; simp))
        clear NO HP HZ
        go_wp2
        refine wp_region_und (by kernel_rfl) (by kernel_rfl) ?_
        repeat (go_big_quiet_step ((first | first | (go_at_call 67; with_reducible exact CA _) | (go_at_call 48; first | (with_reducible exact CC _) | (with_reducible exact CS _) | (with_reducible exact CL _)))))
        refine wpQuiet_nil ?_
        intro X hX
        have hbx := Lib.hid (below_step HBL.out (below_step (below_new (Below.refl _ _) _) hX))
        go_wp2
        go_ret
        exact ⟨ret_bool HV.out.symm, hbx.out⟩
      cases k2 : Pl.isIn xC 1 1000
      · have HV := Lib.hid (NO.out (by unfold Pl.totQ Pl.totOk; dsimp only; rw [k1, k2]; simp))
        clear NO HP HZ
        go_wp2
        refine wp_region_und (by kernel_rfl) (by kernel_rfl) ?_
        repeat (go_big_quiet_step ((first | first | (go_at_call 67; with_reducible exact CA _) | (go_at_call 48; first | (with_reducible exact CC _) | (with_reducible exact CS _) | (with_reducible exact CL _)))))
        refine wpQuiet_nil ?_
        intro X hX
        have hbx := Lib.hid (below_step HBL.out (below_step (below_new (Below.refl _ _) _) hX))
        go_wp2
        go_ret
        exact ⟨ret_bool HV.out.symm, hbx.out⟩
      cases k3 : Pl.isIn xS (-1000000000) 1000000000
      · have HV := Lib.hid (NO.out (by unfold Pl.totQ Pl.totOk; dsimp only; rw [k1, k2, k3]; simp))
        clear NO HP HZ
        go_wp2
        refine wp_region_und (by kernel_rfl) (by kernel_rfl) ?_
        repeat (go_big_quiet_step ((first | first | (go_at_call 67; with_reducible exact CA _) | (go_at_call 48; first | (with_reducible exact CC _) | (with_reducible exact CS _) | (with_reducible exact CL _)))))
        refine wpQuiet_nil ?_
        intro X hX
        have hbx := Lib.hid (below_step HBL.out (below_step (below_new (Below.refl _ _) _) hX))
        go_wp2
        go_ret
        exact ⟨ret_bool HV.out.symm, hbx.out⟩
      cases k4 : Pl.isIn xA (-1000000) xM
      · have HV := Lib.hid (NO.out (by unfold Pl.totQ Pl.totOk; dsimp only; rw [k1, k2, k3, k4]; simp))
        clear NO HP HZ
        go_wp2
        refine wp_region_und (by kernel_rfl) (by kernel_rfl) ?_
        repeat (go_big_quiet_step ((first | first | (go_at_call 67; with_reducible exact CA _) | (go_at_call 48; first | (with_reducible exact CC _) | (with_reducible exact CS _) | (with_reducible exact CL _)))))
        refine wpQuiet_nil ?_
        intro X hX
        have hbx := Lib.hid (below_step HBL.out (below_step (below_new (Below.refl _ _) _) hX))
        go_wp2
        go_ret
        exact ⟨ret_bool HV.out.symm, hbx.out⟩
      by_cases k5 : 1000000 < xM
      · have k6 : decide (xM ≤ 1000000) = false := decide_eq_false (by omega)
        have k7 : decide (1000000 < xM) = true := decide_eq_true k5
        have HV := Lib.hid (NO.out (by unfold Pl.totQ Pl.totOk; dsimp only; rw [k1, k2, k3, k4, k6]; rfl))
        clear NO HP HZ
        go_wp2
        refine wp_region_und (by kernel_rfl) (by kernel_rfl) ?_
        repeat (go_big_quiet_step ((first | first | (go_at_call 67; with_reducible exact CA _) | (go_at_call 48; first | (with_reducible exact CC _) | (with_reducible exact CS _) | (with_reducible exact CL _)))))
        refine wpQuiet_nil ?_
        intro X hX
        have hbx := Lib.hid (below_step HBL.out (below_step (below_new (Below.refl _ _) _) hX))
        go_wp2
        go_ret
        exact ⟨ret_bool HV.out.symm, hbx.out⟩
      have k6 : decide (xM ≤ 1000000) = true := decide_eq_true (by omega)
      have k7 : decide (1000000 < xM) = false := decide_eq_false k5
      by_cases hk0 : k = 0
      · subst hk0
        clear q0
        simp only [Nat.zero_mul, Nat.add_zero] at d0 d1 d2 d3 d4
        have HN := Lib.hid (Pl.snocB HU.out (by rw [HP.out]; unfold Pl.totQ Pl.totOk; dsimp only; rw [k1, k2, k3, k4, k6]; rfl))
        clear NO HP HZ
        go_wp2
        refine wp_region_und (by kernel_rfl) (by kernel_rfl) ?_
        repeat (go_big_quiet_step ((first | first | (go_at_call 67; with_reducible exact CA _) | (go_at_call 48; first | (with_reducible exact CC _) | (with_reducible exact CS _) | (with_reducible exact CL _)))))
        refine wpQuiet_nil ?_
        intro X hX
        have hbx := Lib.hid (below_step HBL.out (below_step (below_new (Below.refl _ _) _) hX))
        go_wp2
        go_roundg (n - (0 + 1))
        case measure => omega
        case rel => exact ⟨hbx.out, 0 + 1, Nat.le_refl _, by omega, by go_num, HN.out⟩
      · obtain ⟨k, rfl⟩ : ∃ j, k = j + 1 := ⟨k - 1, by omega⟩
        rw [Nat.add_sub_cancel] at q0
        have hw1 : IntKind.i64.wrap (((k + 1 : Nat) : Int) - 1) = (k : Nat) := by rw [show ((k + 1 : Nat) : Int) - 1 = (k : Nat) by omega]; exact IntWalk.i64_in _ (by omega)
        have hk3 : (0 : Int) < ((k + 1 : Nat) : Int) := by omega
        have hk4 : (0 : Int) ≤ ((k : Nat) : Int) := by omega
        have hk5 : ((k : Nat) : Int) < (n : Nat) := by omega
        have CX := fun q : Und (W.alloc (.cells #[.slice A1 n1 c1, .int .i64 xS, .int .i64 xC, .int .i64 xA, .int .i64 xM] 50)) => und_call q (l3Text_c xL _ _ _ _ B ((HLX.out.alloc' (by omega) _).und (by have := nblk1 W (.cells #[.slice A1 n1 c1, .int .i64 xS, .int .i64 xC, .int .i64 xA, .int .i64 xM] 50); omega) q) (Nat.le_trans (by have := nblk1 W (.cells #[.slice A1 n1 c1, .int .i64 xS, .int .i64 xC, .int .i64 xA, .int .i64 xM] 50); omega) (und_size q)) k1)
        obtain ⟨tx, htx⟩ : ∃ t, Pl.labelsText xL = t := ⟨_, rfl⟩
        rw [htx] at CX
        have CZ := fun q : Und (W.alloc (.cells #[.slice A1 n1 c1, .int .i64 xS, .int .i64 xC, .int .i64 xA, .int .i64 xM] 50)) => und_call q (l3Text_c zL _ _ _ _ B ((HLZ.out.alloc' (by omega) _).und (by have := nblk1 W (.cells #[.slice A1 n1 c1, .int .i64 xS, .int .i64 xC, .int .i64 xA, .int .i64 xM] 50); omega) q) (Nat.le_trans (by have := nblk1 W (.cells #[.slice A1 n1 c1, .int .i64 xS, .int .i64 xC, .int .i64 xA, .int .i64 xM] 50); omega) (und_size q)) (HZ.out (by omega)))
        obtain ⟨tz, htz⟩ : ∃ t, Pl.labelsText zL = t := ⟨_, rfl⟩
        rw [htz] at CZ
        have HTX := Lib.hid htx
        have HTZ := Lib.hid htz
        clear htx htz
        cases kl : Pl.lessB tz tx
        · have kl' : Op.bytesLess tz.toList tx.toList = false := kl
          have HV := Lib.hid (NO.out (by unfold Pl.totQ Pl.totOk; dsimp only; rw [k1, k2, k3, k4, k6]; rw [HTZ.out, HTX.out, kl]; rfl))
          clear NO HP HZ
          go_wp2
          refine wp_region_und (by kernel_rfl) (by kernel_rfl) ?_
          repeat (go_big_quiet_step ((first | first | (go_at_call 67; with_reducible exact CA _) | (go_at_call 48; first | (with_reducible exact CC _) | (with_reducible exact CS _) | (with_reducible exact CL _)) | (go_at_call 76; first | (with_reducible exact CX _) | (with_reducible exact CZ _)))))
          refine wpQuiet_nil ?_
          intro X hX
          have hbx := Lib.hid (below_step HBL.out (below_step (below_new (Below.refl _ _) _) hX))
          go_wp2
          go_ret
          exact ⟨ret_bool HV.out.symm, hbx.out⟩
        · have kl' : Op.bytesLess tz.toList tx.toList = true := kl
          have HN := Lib.hid (Pl.snocB HU.out (by rw [HP.out]; unfold Pl.totQ Pl.totOk; dsimp only; rw [k1, k2, k3, k4, k6]; rw [HTZ.out, HTX.out, kl]; simp))
          clear NO HP HZ
          go_wp2
          refine wp_region_und (by kernel_rfl) (by kernel_rfl) ?_
          repeat (go_big_quiet_step ((first | first | (go_at_call 67; with_reducible exact CA _) | (go_at_call 48; first | (with_reducible exact CC _) | (with_reducible exact CS _) | (with_reducible exact CL _)) | (go_at_call 76; first | (with_reducible exact CX _) | (with_reducible exact CZ _)))))
          refine wpQuiet_nil ?_
          intro X hX
          have hbx := Lib.hid (below_step HBL.out (below_step (below_new (Below.refl _ _) _) hX))
          go_wp2
          go_roundg (n - (k + 1 + 1))
          case measure => omega
          case rel => exact ⟨hbx.out, k + 1 + 1, Nat.le_refl _, by omega, by go_num, HN.out⟩
    · have HF : Hid (Pl.totalsOk l = decide (n ≤ 40)) := by
        show _ = _
        unfold Pl.totalsOk
        rw [Pl.allB_yes (fun j hj => HU.out j (by rw [hlen.out] at hj; omega)), hlen.out]
        rfl
      obtain rfl : k = n := by omega
      go_wp2
      go_ret
      exact ⟨ret_bool (by rw [HF.out]; exact decide_eq_decide.2 (by omega)), HBL.out⟩
end Go.Proofs.Ytnppcdiicnofpaa
