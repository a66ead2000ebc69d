/-
  Plain functions on lists: a test of all elements, sums. No program in sight. No conditions.
-/
import Derived.Test.YtaepohocabealaaP1
import Derived.Test.YtaepohocabealaaDt
namespace Go.Proofs.Ytaepohocabealaa
namespace Pl
/-- every number below n is good -/
def allB (n : Nat) (g : Nat → Bool) : Bool := (List.range n).all g
theorem allB_iff {n : Nat} {g : Nat → Bool} : allB n g = true ↔ ∀ i, i < n → g i = true := by
  unfold allB; simp
theorem allB_no {n k : Nat} {g : Nat → Bool} (hk : k < n) (h : g k = false) : allB n g = false := by
  cases hb : allB n g with
  | false => rfl
  | true => rw [allB_iff.1 hb k hk] at h; cases h
theorem allB_yes {n : Nat} {g : Nat → Bool} (h : ∀ i, i < n → g i = true) : allB n g = true := allB_iff.2 h

theorem snocB {k : Nat} {p : Nat → Prop} (h : ∀ i, i < k → p i) (hk : p k) : ∀ i, i < k + 1 → p i := fun i hi => by
  rcases Nat.lt_succ_iff_lt_or_eq.1 hi with h1 | rfl
  · exact h i h1
  · exact hk
section
variable {α : Type} {p : α → Bool} {l : List α} {k : Nat} {x : α}
def upTo (p : α → Bool) (l : List α) (k : Nat) : Prop := ∀ i x, i < k → l[i]? = some x → p x = true
theorem upTo0 : upTo p l 0 := fun i _ h => absurd h (Nat.not_lt_zero i)
theorem upTo1 (h : upTo p l k) (hx : l[k]? = some x) (hp : p x = true) : upTo p l (k + 1) := fun i y hi hy => by
  by_cases e : i = k
  · subst e; rw [hx] at hy; injection hy with hy; rw [← hy]; exact hp
  · exact h i y (by omega) hy
theorem upToE (h : upTo p l k) (hk : l.length ≤ k) : l.all p = true := List.all_eq_true.2 fun y hy => by
  obtain ⟨i, hi, rfl⟩ := List.mem_iff_getElem.1 hy
  exact h i _ (by omega) (List.getElem?_eq_getElem hi)
theorem upToB (hx : l[k]? = some x) (hp : p x = false) : l.all p = false := List.all_eq_false.2 ⟨x, List.mem_of_getElem? hx, by rw [hp]; simp⟩
theorem all_at {p : α → Bool} {l : List α} (h : l.all p = true) {k : Nat} {x : α} (hx : l[k]? = some x) : p x = true := List.all_eq_true.1 h x (List.mem_of_getElem? hx)
end
def allIn (a b : Int) (l : List Int) : Bool := l.all fun x => isIn x a b
theorem isIn_iff {n a b : Int} : isIn n a b = true ↔ a ≤ n ∧ n ≤ b := by unfold isIn; simp
theorem isIn_no {n a b : Int} : isIn n a b = false ↔ ¬ (a ≤ n ∧ n ≤ b) := by
  unfold isIn; rw [← Bool.not_eq_true]; simp
theorem isIn_mk {n a b : Int} (h1 : a ≤ n) (h2 : n ≤ b) : isIn n a b = true := isIn_iff.2 ⟨h1, h2⟩
theorem allIn_at {a b : Int} {l : List Int} (h : allIn a b l = true) {k : Nat} {x : Int} (hx : l[k]? = some x) : a ≤ x ∧ x ≤ b := isIn_iff.1 (all_at h hx)
def sumTo (l : List Int) : Nat → Int
  | 0 => 0
  | k + 1 => sumTo l k + l.getD k 0
def sum (l : List Int) : Int := sumTo l l.length
theorem sumTo_next {l : List Int} {k : Nat} {x : Int} (hx : l[k]? = some x) : sumTo l (k + 1) = sumTo l k + x := by
  rw [sumTo, List.getD_eq_getElem?_getD, hx]; rfl
theorem getD_bd {l : List Int} {a b : Int} (h : allIn a b l = true) (h0 : a ≤ 0) (h1 : 0 ≤ b) (k : Nat) : a ≤ l.getD k 0 ∧ l.getD k 0 ≤ b := by
  rw [List.getD_eq_getElem?_getD]
  cases hx : l[k]? with
  | none => exact ⟨h0, h1⟩
  | some x => exact allIn_at h hx
theorem sumTo_bd {l : List Int} {a b : Int} (h : allIn a b l = true) (h0 : a ≤ 0) (h1 : 0 ≤ b) : ∀ k : Nat, a * k ≤ sumTo l k ∧ sumTo l k ≤ b * k
  | 0 => by simp [sumTo]
  | k + 1 => by
    have h2 := sumTo_bd h h0 h1 k
    have h3 := getD_bd h h0 h1 k
    rw [sumTo]
    push_cast
    rw [Int.mul_add, Int.mul_add, Int.mul_one, Int.mul_one]
    omega
theorem getD_upTo {l : List Int} {a b : Int} {k : Nat} (h : upTo (fun x => isIn x a b) l k) (h0 : a ≤ 0) (h1 : 0 ≤ b) {i : Nat} (hi : i < k) : a ≤ l.getD i 0 ∧ l.getD i 0 ≤ b := by
  rw [List.getD_eq_getElem?_getD]
  cases hx : l[i]? with
  | none => exact ⟨h0, h1⟩
  | some x => exact isIn_iff.1 (h i x hi hx)
theorem sumTo_bd' {l : List Int} {a b : Int} {k : Nat} (h : upTo (fun x => isIn x a b) l k) (h0 : a ≤ 0) (h1 : 0 ≤ b) : ∀ j : Nat, j ≤ k → a * j ≤ sumTo l j ∧ sumTo l j ≤ b * j
  | 0, _ => by simp [sumTo]
  | j + 1, hj => by
    have h2 := sumTo_bd' h h0 h1 j (by omega)
    have h3 := getD_upTo h h0 h1 (show j < k by omega)
    rw [sumTo]
    push_cast
    rw [Int.mul_add, Int.mul_add, Int.mul_one, Int.mul_one]
    omega
end Pl
end Go.Proofs.Ytaepohocabealaa
