/-
  Plain functions on samples and counters. No program in sight. No conditions.
-/
import Derived.Test.YtjpmnegpkpimhaaPc
namespace Go.Proofs.Ytjpmnegpkpimhaa
namespace Pl

def sampleOk (x : Sample) : Bool := isIn x.At 0 1000000000 && isIn x.Value (-1000000000) 1000000000
def sampleAt (l : List Sample) (i : Nat) : Sample := l.getD i ⟨0, 0⟩
theorem sampleAt_of {l : List Sample} {i : Nat} {x : Sample} (h : l[i]? = some x) : sampleAt l i = x := by
  unfold sampleAt; rw [List.getD_eq_getElem?_getD, h]; rfl
def sampleGood (l : List Sample) (i : Nat) : Bool := sampleOk (sampleAt l i) && (decide (i = 0) || decide ((sampleAt l (i - 1)).At < (sampleAt l i).At))
def samplesOk (l : List Sample) : Bool := allB l.length (sampleGood l) && decide ((l.length : Int) ≤ 40)
def counterOk (l : List Sample) : Bool := samplesOk l && allB l.length (fun i => !decide ((sampleAt l i).Value < 0))
theorem samplesOk_bad {l : List Sample} {k : Nat} (hk : k < l.length) (h : sampleGood l k = false) : samplesOk l = false := by
  unfold samplesOk; rw [allB_no hk h]; rfl
theorem samplesOk_end {l : List Sample} {k : Nat} (hk : l.length ≤ k) (h : ∀ i, i < k → sampleGood l i = true) : samplesOk l = decide ((l.length : Int) ≤ 40) := by
  unfold samplesOk; rw [allB_yes (fun i hi => h i (by omega))]; rfl
theorem good_bad {l : List Sample} {k : Nat} {x : Sample} (h : l[k]? = some x) (hx : sampleOk x = false) : sampleGood l k = false := by
  unfold sampleGood; rw [sampleAt_of h, hx]; rfl
theorem good_zero {l : List Sample} {x : Sample} (h : l[0]? = some x) (hx : sampleOk x = true) : sampleGood l 0 = true := by
  unfold sampleGood; rw [sampleAt_of h, hx]; rfl
theorem good_later {l : List Sample} {k : Nat} {x y : Sample} (h : l[k]? = some x) (h' : l[k - 1]? = some y) (hk : 0 < k) (hx : sampleOk x = true) : sampleGood l k = decide (y.At < x.At) := by
  unfold sampleGood; rw [sampleAt_of h, sampleAt_of h', hx]; simp; omega
theorem sampleOk_iff {x : Sample} : sampleOk x = true ↔ isIn x.At 0 1000000000 = true ∧ isIn x.Value (-1000000000) 1000000000 = true := by
  unfold sampleOk; simp
theorem counterOk_bad {l : List Sample} {k : Nat} {x : Sample} (hk : k < l.length) (h : l[k]? = some x) (hx : x.Value < 0) : counterOk l = false := by
  unfold counterOk
  rw [allB_no hk (by rw [sampleAt_of h]; simpa using hx)]
  simp
theorem counterOk_end {l : List Sample} {k : Nat} (hk : l.length ≤ k) (h : ∀ i, i < k → (!decide ((sampleAt l i).Value < 0)) = true) : counterOk l = samplesOk l := by
  unfold counterOk
  rw [allB_yes (fun i hi => h i (by omega))]
  simp
/-- the first index at which p holds, or -1 -/
def idx {α : Type} (p : α → Bool) : List α → Int
  | [] => -1
  | x :: t => if p x = true then 0 else if idx p t < 0 then -1 else idx p t + 1
theorem idx_ge {α : Type} (p : α → Bool) : ∀ l : List α, -1 ≤ idx p l
  | [] => by simp [idx]
  | x :: t => by
    have := idx_ge p t
    unfold idx
    split
    · omega
    · split <;> omega
theorem idx_none {α : Type} {p : α → Bool} : ∀ {l : List α} {n : Nat}, l.length ≤ n → (∀ (i : Nat) (x : α), i < n → l[i]? = some x → p x = false) → idx p l = -1
  | [], _, _, _ => rfl
  | x :: t, n, hn, h => by
    have h0 := h 0 x (by simp at hn; omega) rfl
    have := idx_none (l := t) (n := n - 1) (by simp at hn; omega) (fun i y hi hy => h (i + 1) y (by omega) (by simpa using hy))
    unfold idx
    rw [h0, this]
    simp
theorem idx_at {α : Type} {p : α → Bool} : ∀ {l : List α} {k : Nat} {x : α}, l[k]? = some x → p x = true → (∀ (i : Nat) (y : α), i < k → l[i]? = some y → p y = false) → idx p l = (k : Int)
  | [], k, x, h, _, _ => by simp at h
  | y :: t, 0, x, h, hp, _ => by
    simp at h
    subst h
    unfold idx
    rw [if_pos hp]
    rfl
  | y :: t, k + 1, x, h, hp, ha => by
    have h0 := ha 0 y (by omega) rfl
    have h1 := idx_at (l := t) (k := k) (x := x) (by simpa using h) hp (fun i z hi hz => ha (i + 1) z (by omega) (by simpa using hz))
    unfold idx
    rw [h0, h1, if_neg (by simp), if_neg (by omega)]
    push_cast
    rfl
theorem idx_any {α : Type} (p : α → Bool) : ∀ l : List α, l.any p = decide (0 ≤ idx p l)
  | [] => by simp [idx]
  | x :: t => by
    have h1 := idx_any p t
    have h2 := idx_ge p t
    unfold idx
    rw [List.any_cons, h1]
    cases hp : p x
    · simp only [Bool.false_or, Bool.false_eq_true, if_false]
      by_cases h : idx p t < 0
      · rw [if_pos h]; simp; omega
      · rw [if_neg h]; simp; omega
    · simp
theorem counterOk_any {l : List Sample} (h : samplesOk l = true) : counterOk l = !(l.any fun x => decide (x.Value < 0)) := by
  unfold counterOk
  rw [h, Bool.true_and]
  cases hv : (l.any fun x => decide (x.Value < 0))
  · rw [Bool.not_false, allB_iff]
    intro i hi
    rw [List.any_eq_false] at hv
    have := hv l[i] (List.getElem_mem hi)
    rw [sampleAt_of (List.getElem?_eq_getElem hi)]
    simpa using this
  · obtain ⟨x, hx, hv⟩ := List.any_eq_true.1 hv
    obtain ⟨i, hi, rfl⟩ := List.mem_iff_getElem.1 hx
    rw [Bool.not_true]
    exact allB_no hi (by rw [sampleAt_of (List.getElem?_eq_getElem hi), hv]; rfl)
end Pl
end Go.Proofs.Ytjpmnegpkpimhaa
