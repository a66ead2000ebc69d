/-
  Plain functions on sketches and heavy hitters. No program in sight. No conditions.
-/
import Derived.Test.YtaepohocabealaaPc
import Derived.WalkKit
import Derived.Lib.Strings
namespace Go.Proofs.Ytaepohocabealaa
namespace Pl
/-- what a sketch must be -/
def rowOk (t : Int) (r : List Int) : Bool := decide (r.length = 11) && allIn 0 100000 r && decide (sum r = t)
def sketchOk (s : Sketch) : Bool := isIn s.Rows.length 1 3 && s.Rows.all (rowOk s.Total)
theorem rowOk_iff {t : Int} {r : List Int} : rowOk t r = true ↔ r.length = 11 ∧ allIn 0 100000 r = true ∧ sum r = t := by
  unfold rowOk; simp [and_assoc]
theorem sum_bd {l : List Int} {a b : Int} (h : allIn a b l = true) (h0 : a ≤ 0) (h1 : 0 ≤ b) : a * l.length ≤ sum l ∧ sum l ≤ b * l.length := sumTo_bd h h0 h1 _
def guessTo (rows : List (List Int)) (name : List UInt8) : Nat → Int
  | 0 => 100000
  | k + 1 => if (rows.getD k []).getD (place k name).toNat 0 < guessTo rows name k then (rows.getD k []).getD (place k name).toNat 0 else guessTo rows name k
def guessOf (s : Sketch) (name : ByteArray) : Int × Bool :=
  if (sketchOk s && word false name.data.toList) = true then (guessTo s.Rows name.data.toList s.Rows.length, true) else (0, false)
theorem ba_nil {x : ByteArray} (h : x.toList = []) : x = ⟨#[]⟩ := by
  rw [Lib.toList_data] at h
  cases x with
  | mk a => simp at h; rw [h]
theorem beq_dec (a b : Int) : (a == b) = decide (a = b) := by
  by_cases h : a = b
  · subst h; simp
  · simp [h]
def strAt (l : List ByteArray) (i : Nat) : ByteArray := l.getD i ByteArray.empty
theorem strAt_of {l : List ByteArray} {i : Nat} {x : ByteArray} (h : l[i]? = some x) : strAt l i = x := by
  unfold strAt; rw [List.getD_eq_getElem?_getD, h]; rfl
theorem getD_of {l : List Int} {i : Nat} {x : Int} (h : l[i]? = some x) : l.getD i 0 = x := by
  rw [List.getD_eq_getElem?_getD, h]; rfl
/-- what is said of one place -/
def slotP (k : Nat) (x : ByteArray) (y : Int) (z : ByteArray) : Bool :=
  if x.toList = [] then decide (y = 0) else word false x.data.toList && isIn y 1 100000 && (decide (k = 0) || (Op.bytesLess z.toList x.toList && !z.toList.isEmpty))
def slotOk (h : Heavy) (i : Nat) : Bool := slotP i (strAt h.Names i) (h.Counts.getD i 0) (strAt h.Names (i - 1))
theorem slotOk_of {h : Heavy} {i : Nat} {x z : ByteArray} {y : Int} (hx : h.Names[i]? = some x) (hy : h.Counts[i]? = some y) (hz : h.Names[i - 1]? = some z) : slotOk h i = slotP i x y z := by
  unfold slotOk; rw [strAt_of hx, strAt_of hz, getD_of hy]
def heavyOk (h : Heavy) : Bool :=
  isIn (h.Names.length : Int) 1 6 && decide (h.Counts.length = h.Names.length) && isIn h.Gone 0 100000 && isIn h.Total 0 1000000 && allB h.Names.length (slotOk h) && decide (sum h.Counts + h.Gone * ((h.Names.length : Int) + 1) = h.Total)
theorem slotP_bd {k : Nat} {x z : ByteArray} {y : Int} (h : slotP k x y z = true) : 0 ≤ y ∧ y ≤ 100000 := by
  unfold slotP at h
  split at h
  · simp at h; omega
  · simp only [Bool.and_eq_true] at h
    have := isIn_iff.1 h.1.2; omega
theorem sumTo_slot {h : Heavy} : ∀ {k : Nat}, (∀ i, i < k → slotOk h i = true) → 0 ≤ sumTo h.Counts k ∧ sumTo h.Counts k ≤ 100000 * k
  | 0, _ => by simp [sumTo]
  | k + 1, hh => by
    have h1 := sumTo_slot (k := k) fun i hi => hh i (by omega)
    have h2 := slotP_bd (hh k (by omega))
    rw [sumTo]
    push_cast
    omega
theorem slots_in {h : Heavy} (hl : h.Counts.length = h.Names.length) (hh : ∀ i, i < h.Names.length → slotOk h i = true) : allIn (-1000000) 1000000 h.Counts = true := List.all_eq_true.2 fun y hy => by
  obtain ⟨i, hi, rfl⟩ := List.mem_iff_getElem.1 hy
  have h2 := slotP_bd (hh i (by omega))
  rw [getD_of (List.getElem?_eq_getElem hi)] at h2
  exact isIn_mk (by omega) (by omega)
theorem heavyOk_iff {h : Heavy} : heavyOk h = true ↔ (1 ≤ (h.Names.length : Int) ∧ (h.Names.length : Int) ≤ 6) ∧ h.Counts.length = h.Names.length ∧ (0 ≤ h.Gone ∧ h.Gone ≤ 100000) ∧ (0 ≤ h.Total ∧ h.Total ≤ 1000000) ∧ (∀ i, i < h.Names.length → slotOk h i = true) ∧ sum h.Counts + h.Gone * ((h.Names.length : Int) + 1) = h.Total := by
  unfold heavyOk; simp only [Bool.and_eq_true, decide_eq_true_eq, isIn_iff, allB_iff, and_assoc]
/-- where a text stands, counted from k -/
def idxFrom (l : List ByteArray) (v : ByteArray) : Nat → Nat → Int
  | 0, _ => -1
  | f + 1, k => if strAt l k = v then (k : Int) else idxFrom l v f (k + 1)
def idx (l : List ByteArray) (v : ByteArray) : Int := idxFrom l v l.length 0
theorem idxFrom_bd {l : List ByteArray} {v : ByteArray} : ∀ (f k : Nat), idxFrom l v f k = -1 ∨ ((k : Int) ≤ idxFrom l v f k ∧ idxFrom l v f k < (k + f : Nat))
  | 0, k => .inl rfl
  | f + 1, k => by
    unfold idxFrom
    split
    · right; omega
    · rcases idxFrom_bd (l := l) (v := v) f (k + 1) with h | h
      · exact .inl h
      · right; omega
theorem idx_bd {l : List ByteArray} {v : ByteArray} : idx l v = -1 ∨ (0 ≤ idx l v ∧ idx l v < l.length) := by
  have := idxFrom_bd (l := l) (v := v) l.length 0
  unfold idx; simp at this; omega
theorem idx_yes {l : List ByteArray} {v : ByteArray} {k n : Nat} (hn : l.length = n) (h : idx l v = idxFrom l v (n - k) k) (hk : k < n) (he : strAt l k = v) : idx l v = k := by
  rw [h, show n - k = (n - (k + 1)) + 1 by omega, idxFrom, if_pos he]
theorem idx_no {l : List ByteArray} {v : ByteArray} {k n : Nat} (h : idx l v = idxFrom l v (n - k) k) (hk : k < n) (he : strAt l k ≠ v) : idx l v = idxFrom l v (n - (k + 1)) (k + 1) := by
  rw [h, show n - k = (n - (k + 1)) + 1 by omega, idxFrom, if_neg he]
theorem idx_end {l : List ByteArray} {v : ByteArray} {k n : Nat} (h : idx l v = idxFrom l v (n - k) k) (hk : ¬ k < n) : idx l v = -1 := by
  rw [h, show n - k = 0 by omega]; rfl
def leastOf (h : Heavy) (name : ByteArray) : Int × Int × Bool :=
  if (heavyOk h && word false name.data.toList) = true then
    if 0 ≤ idx h.Names name then (h.Counts.getD (idx h.Names name).toNat 0, h.Counts.getD (idx h.Names name).toNat 0 + h.Gone, true) else (0, h.Gone, true)
  else (0, 0, false)
def ret3 (x : Int × Int × Bool) : Ending := .returned (.tuple #[.int .i64 x.1, .int .i64 x.2.1, .bool x.2.2])
theorem rows_bd {s : Sketch} (h : sketchOk s = true) {k : Nat} {r : List Int} (hr : s.Rows[k]? = some r) : r.length = 11 ∧ allIn 0 100000 r = true ∧ sum r = s.Total := by
  unfold sketchOk at h
  rw [Bool.and_eq_true] at h
  exact rowOk_iff.1 (all_at h.2 hr)
theorem guessTo_bd {rows : List (List Int)} {name : List UInt8} (h : ∀ (k : Nat) (r : List Int), rows[k]? = some r → allIn 0 100000 r = true) : ∀ k, 0 ≤ guessTo rows name k ∧ guessTo rows name k ≤ 100000
  | 0 => by simp [guessTo]
  | k + 1 => by
    have h1 := guessTo_bd (name := name) h k
    have h2 : 0 ≤ (rows.getD k []).getD (place k name).toNat 0 := by
      rw [List.getD_eq_getElem?_getD]
      cases hr : (rows.getD k [])[(place k name).toNat]? with
      | none => exact Int.le_refl _
      | some x =>
        rw [List.getD_eq_getElem?_getD] at hr
        cases hk : rows[k]? with
        | none => rw [hk] at hr; simp at hr
        | some r =>
          rw [hk] at hr
          exact (allIn_at (h k r hk) hr).1
    unfold guessTo
    split <;> omega
theorem guessTo_next {rows : List (List Int)} {name : List UInt8} {k : Nat} {r : List Int} {x : Int} (hr : rows[k]? = some r) (hx : r[(place k name).toNat]? = some x) : guessTo rows name (k + 1) = if x < guessTo rows name k then x else guessTo rows name k := by
  rw [guessTo, List.getD_eq_getElem?_getD (l := rows), hr]
  show (if r.getD _ 0 < _ then r.getD _ 0 else _) = _
  rw [getD_of hx]
theorem guess_step {rows : List (List Int)} {name : List UInt8} {k : Nat} {x z : Int} (hz : z = guessTo rows name (max k 1)) (hn : guessTo rows name (k + 1) = if x < guessTo rows name k then x else guessTo rows name k) (hx : x ≤ 100000) :
    (x < z → x = guessTo rows name (max (k + 1) 1)) ∧ (¬ x < z → z = guessTo rows name (max (k + 1) 1)) := by
  rw [show max (k + 1) 1 = k + 1 by omega]
  by_cases hk : k = 0
  · subst hk
    rw [show max 0 1 = 0 + 1 by rfl] at hz
    rw [hz]
    rw [hn]
    show (x < (if x < (100000 : Int) then x else 100000) → x = if x < (100000 : Int) then x else 100000) ∧ _
    refine ⟨fun h => ?_, fun _ => rfl⟩
    split at h <;> omega
  · rw [show max k 1 = k by omega] at hz
    rw [hn, hz]
    exact ⟨fun h => by rw [if_pos h], fun h => by rw [if_neg h]⟩
def bump (r : List Int) (p : Nat) (many : Int) : List Int := r.set p (r.getD p 0 + many)
def addTo (rows : List (List Int)) (name : List UInt8) (many : Int) : Nat → List (List Int)
  | 0 => []
  | k + 1 => addTo rows name many k ++ [bump (rows.getD k []) (place k name).toNat many]
theorem addTo_len (rows : List (List Int)) (name : List UInt8) (many : Int) : ∀ k, (addTo rows name many k).length = k
  | 0 => rfl
  | k + 1 => by rw [addTo, List.length_append, addTo_len rows name many k]; rfl
theorem addTo_next {rows : List (List Int)} {name : List UInt8} {many : Int} {k : Nat} {r : List Int} (hr : rows[k]? = some r) : addTo rows name many (k + 1) = addTo rows name many k ++ [bump r (place k name).toNat many] := by
  rw [addTo, List.getD_eq_getElem?_getD, hr]; rfl
def bumped (s : Sketch) (name : List UInt8) (many : Int) : Sketch := ⟨addTo s.Rows name many s.Rows.length, s.Total + many⟩
def sk0 : Sketch := ⟨[], 0⟩
def addSketch (s : Sketch) (name : ByteArray) (many : Int) : Sketch × Bool :=
  if (sketchOk s && word false name.data.toList && isIn many 1 1000) = true then (if sketchOk (bumped s name.data.toList many) = true then (bumped s name.data.toList many, true) else (sk0, false)) else (sk0, false)
end Pl
end Go.Proofs.Ytaepohocabealaa
