/-
  Plain labels and totals. No program in sight. No conditions.
-/
import Derived.Test.YtnppcdiicnofpaaPh
import Derived.Lib.Join
namespace Go.Proofs.Ytnppcdiicnofpaa
namespace Pl
def labAt (l : List Label) (k : Nat) : Label := l.getD k ⟨⟨#[]⟩, ⟨#[]⟩⟩
theorem labAt_of {l : List Label} {k : Nat} {x : Label} (h : l[k]? = some x) : labAt l k = x := by unfold labAt; rw [List.getD_eq_getElem?_getD, h]; rfl
def labelOk (x : Label) : Bool := word false x.Name.data.toList && word true x.Value.data.toList
def labQ (k : Nat) (x z : Label) : Bool := labelOk x && (decide (k = 0) || lessB z.Name x.Name)
def labP (l : List Label) (k : Nat) : Bool := labQ k (labAt l k) (labAt l (k - 1))
def labelsOk (l : List Label) : Bool := allB l.length (labP l) && decide (l.length ≤ 6)
def labTxt (x : Label) : List UInt8 := x.Name.data.toList ++ 61 :: x.Value.data.toList
def labBody (l : List Label) : List UInt8 := Lib.join (l.map labTxt) [44]
def labelsText (l : List Label) : ByteArray := ⟨(123 :: (labBody l ++ [125])).toArray⟩
theorem join_snoc (xs : List (List UInt8)) (y sep : List UInt8) : Lib.join (xs ++ [y]) sep = if xs = [] then y else Lib.join xs sep ++ (sep ++ y) := by
  cases xs with
  | nil => rw [if_pos rfl, List.nil_append, Lib.join_one]
  | cons z r =>
    rw [if_neg (by simp), List.cons_append, Lib.join_cons, Lib.join_cons]
    unfold Lib.joinTail
    simp
theorem labBody_next {l : List Label} {k : Nat} {x : Label} (h : l[k]? = some x) : labBody (l.take (k + 1)) = if k = 0 then labTxt x else labBody (l.take k) ++ (44 :: labTxt x) := by
  obtain ⟨hk, hx⟩ := List.getElem?_eq_some_iff.1 h
  unfold labBody
  rw [List.take_succ_eq_append_getElem hk, hx, List.map_append, List.map_cons, List.map_nil, join_snoc]
  by_cases h0 : k = 0
  · subst h0; rfl
  · rw [if_neg h0, if_neg (by
      intro e
      have := congrArg List.length e
      rw [List.length_map, List.length_take] at this
      change min k l.length = 0 at this
      omega)]
    rfl
theorem labelsOk_at {l : List Label} (h : labelsOk l = true) {k : Nat} {x : Label} (hx : l[k]? = some x) : labelOk x = true := by
  unfold labelsOk at h
  rw [Bool.and_eq_true] at h
  have h1 := allB_iff.1 h.1 k (List.getElem?_eq_some_iff.1 hx).1
  unfold labP labQ at h1
  rw [labAt_of hx, Bool.and_eq_true] at h1
  exact h1.1
theorem labelsOk_len {l : List Label} (h : labelsOk l = true) : l.length ≤ 6 := by
  unfold labelsOk at h
  rw [Bool.and_eq_true] at h
  simpa using h.2
theorem labTxt_len {x : Label} (h : labelOk x = true) : (labTxt x).length ≤ 17 := by
  unfold labelOk at h
  rw [Bool.and_eq_true] at h
  have h1 := word_len h.1
  have h2 := word_len h.2
  unfold labTxt
  rw [List.length_append, List.length_cons]
  omega
theorem labBody_take_len {l : List Label} (h : labelsOk l = true) : ∀ k : Nat, k ≤ l.length → (labBody (l.take k)).length ≤ 18 * k
  | 0, _ => by simp [labBody, Lib.join_nil]
  | k + 1, hk => by
    have ih := labBody_take_len h k (by omega)
    have hx : l[k]? = some l[k] := List.getElem?_eq_getElem (by omega)
    have h1 := labTxt_len (labelsOk_at h hx)
    rw [labBody_next hx]
    split
    · omega
    · rw [List.length_append, List.length_cons]; omega
theorem labBody_len {l : List Label} (h : labelsOk l = true) : (labBody l).length ≤ 108 := by
  have h1 := labBody_take_len h l.length (Nat.le_refl _)
  have h2 := labelsOk_len h
  rw [List.take_of_length_le (Nat.le_refl _)] at h1
  omega
def totAt (l : List Total) (k : Nat) : Total := l.getD k ⟨[], 0, 0, 0, 0⟩
theorem totAt_of {l : List Total} {k : Nat} {x : Total} (h : l[k]? = some x) : totAt l k = x := by unfold totAt; rw [List.getD_eq_getElem?_getD, h]; rfl
def totOk (x : Total) : Bool := labelsOk x.Labels && isIn x.Count 1 1000 && isIn x.Sum (-1000000000) 1000000000 && isIn x.Least (-1000000) x.Most && decide (x.Most ≤ 1000000)
def totQ (k : Nat) (x z : Total) : Bool := totOk x && (decide (k = 0) || lessB (labelsText z.Labels) (labelsText x.Labels))
def totP (l : List Total) (k : Nat) : Bool := totQ k (totAt l k) (totAt l (k - 1))
def totalsOk (l : List Total) : Bool := allB l.length (totP l) && decide (l.length ≤ 40)
def totVal (x : Total) (op : Int) : Int := if op = 2 then x.Count else if op = 3 then x.Least else if op = 4 then x.Most else x.Sum
def totalValues (l : List Total) (op : Int) : List Int := l.map fun x => totVal x op
def valuesOf (l : List Total) (op : Int) : List Int × Bool := if (totalsOk l && isIn op 1 4) = true then (totalValues l op, true) else ([], false)
theorem totalsOk_at {l : List Total} (h : totalsOk l = true) {k : Nat} {x : Total} (hx : l[k]? = some x) : totOk x = true := by
  unfold totalsOk at h
  rw [Bool.and_eq_true] at h
  have h1 := allB_iff.1 h.1 k (List.getElem?_eq_some_iff.1 hx).1
  unfold totP totQ at h1
  rw [totAt_of hx, Bool.and_eq_true] at h1
  exact h1.1
theorem totalsOk_len {l : List Total} (h : totalsOk l = true) : l.length ≤ 40 := by
  unfold totalsOk at h
  rw [Bool.and_eq_true] at h
  simpa using h.2
theorem totOk_lab {x : Total} (h : totOk x = true) : labelsOk x.Labels = true := by
  unfold totOk at h
  simp only [Bool.and_eq_true] at h
  exact h.1.1.1.1
theorem labelsText_data (l : List Label) : (labelsText l).data.toList = 123 :: (labBody l ++ [125]) := rfl
theorem ba_ext {a b : ByteArray} (h : a.data.toList = b.data.toList) : a = b := by
  cases a; cases b; congr 1; exact Array.toList_inj.1 h
end Pl
end Go.Proofs.Ytnppcdiicnofpaa
