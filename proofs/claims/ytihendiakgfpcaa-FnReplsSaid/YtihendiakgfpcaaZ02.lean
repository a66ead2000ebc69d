/-
  Joined texts, in build order: N0, N1, N2, N3, N4, Op, E0, Qt, Ac, Cl, Se. Each part says what it proves; no conditions beyond those that a part names.
-/
import Derived.Test.YtihendiakgfpcaaZ01
import Derived.Lib.Strings
import Derived.ProofKit
import Derived.OpenShut
import Derived.Deep.Slices
import Derived.Lib.Hide
import Derived.Deep.DeepFit
import Derived.Deep.LoopGhost
import Derived.Laws.StructEq
import Derived.StillTail
/-
  Plain functions: logs of entries: where two are alike, the starts of the epochs, an epoch's end, up to where a follower keeps its entries. No program in sight. No conditions.
-/
namespace Go.Proofs.Ytihendiakgfpcaa
namespace Pl
def eqE (a b : Entry) : Bool := decide (a.Epoch = b.Epoch) && (a.Text.toList == b.Text.toList)
theorem ba_eq {s t : ByteArray} (h : s.toList = t.toList) : s = t := by
  rw [Lib.toList_data, Lib.toList_data] at h
  cases s with | mk a => cases t with | mk b => 
    congr
    exact Array.ext' (by simpa using h)
theorem eqE_iff {a b : Entry} : eqE a b = true ↔ a = b := by
  unfold eqE
  rw [Bool.and_eq_true, decide_eq_true_eq, beq_iff_eq]
  constructor
  · rintro ⟨h1, h2⟩
    cases a; cases b
    simp only at h1 h2
    rw [h1, ba_eq h2]
  · rintro rfl; exact ⟨rfl, rfl⟩
theorem eqE_no {a b : Entry} : eqE a b = false ↔ a ≠ b := by
  rw [← Bool.not_eq_true, eqE_iff]
theorem eqE_self (a : Entry) : eqE a a = true := eqE_iff.2 rfl
theorem eqE_comm (a b : Entry) : eqE a b = eqE b a := by
  rw [Bool.eq_iff_iff, eqE_iff, eqE_iff]; exact ⟨Eq.symm, Eq.symm⟩
/-- up to where two logs are alike -/
def part : List Entry → List Entry → Nat
  | a :: s, b :: t => if eqE a b = true then part s t + 1 else 0
  | [], _ => 0
  | _ :: _, [] => 0
theorem part_le : ∀ a b : List Entry, part a b ≤ a.length ∧ part a b ≤ b.length
  | [], _ => by simp [part]
  | _ :: _, [] => by simp [part]
  | x :: s, y :: t => by
    have := part_le s t
    rw [part]
    split
    · simp only [List.length_cons]; omega
    · simp only [List.length_cons]; omega
theorem part_comm : ∀ a b : List Entry, part a b = part b a
  | [], [] => rfl
  | [], _ :: _ => rfl
  | _ :: _, [] => rfl
  | x :: s, y :: t => by rw [part, part, eqE_comm, part_comm s t]
theorem part_take : ∀ a b : List Entry, a.take (part a b) = b.take (part a b)
  | [], _ => by simp [part]
  | _ :: _, [] => by simp [part]
  | x :: s, y :: t => by
    rw [part]
    split
    · rename_i h
      rw [List.take_succ_cons, List.take_succ_cons, part_take s t, eqE_iff.1 h]
    · rfl
/-- where a loop that counts has come to -/
theorem part_of : ∀ (a b : List Entry) (k : Nat), k ≤ a.length → k ≤ b.length → a.take k = b.take k → (∀ x y, a[k]? = some x → b[k]? = some y → eqE x y = false) → part a b = k
  | [], b, k, h, _, _, _ => by simp at h; subst h; simp [part]
  | _ :: _, [], k, _, h, _, _ => by simp at h; subst h; simp [part]
  | x :: s, y :: t, 0, _, _, _, h => by
    rw [part, if_neg]
    rw [h x y rfl rfl]; simp
  | x :: s, y :: t, k + 1, h1, h2, h3, h4 => by
    rw [List.take_succ_cons, List.take_succ_cons] at h3
    injection h3 with h5 h6
    rw [part, if_pos (eqE_iff.2 h5), part_of s t k (by simpa using h1) (by simpa using h2) h6 (fun u v hu hv => h4 u v (by simpa using hu) (by simpa using hv))]
theorem part_ge : ∀ (a b : List Entry) (k : Nat), k ≤ a.length → k ≤ b.length → a.take k = b.take k → k ≤ part a b
  | _, _, 0, _, _, _ => Nat.zero_le _
  | [], b, k + 1, h, _, _ => by simp at h
  | _ :: _, [], k + 1, _, h, _ => by simp at h
  | x :: s, y :: t, k + 1, h1, h2, h3 => by
    rw [List.take_succ_cons, List.take_succ_cons] at h3
    injection h3 with h5 h6
    rw [part, if_pos (eqE_iff.2 h5)]
    exact Nat.succ_le_succ (part_ge s t k (by simpa using h1) (by simpa using h2) h6)
theorem part_self (a : List Entry) : part a a = a.length := Nat.le_antisymm (part_le a a).1 (part_ge a a _ (Nat.le_refl _) (Nat.le_refl _) rfl)
theorem part_full {l c : List Entry} : part l c = c.length ↔ c <+: l := by
  constructor
  · intro h
    have h1 := part_take l c
    rw [h, List.take_length] at h1
    rw [← h1]
    exact List.take_prefix _ _
  · intro h
    have h1 := h.length_le
    refine Nat.le_antisymm (part_le l c).2 (part_ge l c _ h1 (Nat.le_refl _) ?_)
    rw [List.take_length]
    exact (List.prefix_iff_eq_take.1 h).symm
theorem take_next {α : Type} {a b : List α} {k : Nat} {x : α} (h : a.take k = b.take k) (ha : a[k]? = some x) (hb : b[k]? = some x) : a.take (k + 1) = b.take (k + 1) := by
  obtain ⟨h1, h2⟩ := List.getElem?_eq_some_iff.1 ha
  obtain ⟨h3, h4⟩ := List.getElem?_eq_some_iff.1 hb
  rw [List.take_succ_eq_append_getElem h1, List.take_succ_eq_append_getElem h3, h, h2, h4]
/-- the epochs rise -/
def Ris (l : List Entry) : Prop := ∀ (i j : Nat) (x y : Entry), l[i]? = some x → l[j]? = some y → i ≤ j → x.Epoch ≤ y.Epoch
theorem Ris.take {l : List Entry} (h : Ris l) (n : Nat) : Ris (l.take n) := fun i j x y hx hy hij => by
  rw [List.getElem?_take] at hx hy
  split at hx
  · split at hy
    · exact h i j x y hx hy hij
    · cases hy
  · cases hx
/-- how many entries, from the first on, have an epoch or a smaller one -/
def fend : List Entry → Int → Nat
  | [], _ => 0
  | x :: t, e => if x.Epoch ≤ e then fend t e + 1 else 0
theorem fend_le : ∀ (l : List Entry) (e : Int), fend l e ≤ l.length
  | [], _ => Nat.le_refl _
  | x :: t, e => by
    rw [fend]
    have := fend_le t e
    split
    · simp only [List.length_cons]; omega
    · exact Nat.zero_le _
theorem fend_in : ∀ (l : List Entry) (e : Int) (i : Nat) (x : Entry), i < fend l e → l[i]? = some x → x.Epoch ≤ e
  | [], _, i, x, h, _ => by simp [fend] at h
  | y :: t, e, i, x, h, hx => by
    rw [fend] at h
    split at h
    · rename_i hy
      cases i with
      | zero => simp at hx; rw [← hx]; exact hy
      | succ i => exact fend_in t e i x (by omega) (by simpa using hx)
    · omega
theorem fend_out : ∀ (l : List Entry) (e : Int) (x : Entry), l[fend l e]? = some x → e < x.Epoch
  | [], _, x, h => by simp at h
  | y :: t, e, x, h => by
    rw [fend] at h
    split at h
    · exact fend_out t e x (by simpa using h)
    · rename_i hy
      simp at h; rw [← h]; omega
theorem fend_of {l : List Entry} {e : Int} {k : Nat} (hk : k ≤ l.length) (h1 : ∀ i x, i < k → l[i]? = some x → x.Epoch ≤ e) (h2 : ∀ x, l[k]? = some x → e < x.Epoch) : fend l e = k := by
  rcases Nat.lt_trichotomy (fend l e) k with h | h | h
  · have hx := List.getElem?_eq_getElem (show fend l e < l.length by omega)
    have := fend_out l e _ hx
    have := h1 _ _ h hx
    omega
  · exact h
  · have := fend_le l e
    have hx := List.getElem?_eq_getElem (show k < l.length by omega)
    have := fend_in l e k _ h hx
    have := h2 _ hx
    omega
/-- in a log whose epochs rise, the entries ahead of an epoch's end are those with that epoch or a smaller one -/
theorem fend_iff {l : List Entry} (hl : Ris l) {e : Int} {i : Nat} {x : Entry} (hx : l[i]? = some x) : i < fend l e ↔ x.Epoch ≤ e := by
  constructor
  · exact fun h => fend_in l e i x h hx
  · intro h
    apply Classical.byContradiction
    intro hn
    have hi := (List.getElem?_eq_some_iff.1 hx).1
    have hy := List.getElem?_eq_getElem (show fend l e < l.length by omega)
    have h1 := fend_out l e _ hy
    have h2 := hl _ _ _ _ hy hx (by omega)
    omega
theorem fend_mono {l : List Entry} (_hl : Ris l) {e f : Int} (h : e ≤ f) : fend l e ≤ fend l f := by
  apply Classical.byContradiction
  intro hn
  have := fend_le l e
  have hy := List.getElem?_eq_getElem (show fend l f < l.length by omega)
  have h1 := fend_out l f _ hy
  have h2 := fend_in l e _ _ (show fend l f < fend l e by omega) hy
  omega
theorem fend_count {l : List Entry} (hl : Ris l) (e : Int) : l.countP (fun x => decide (x.Epoch ≤ e)) = fend l e := by
  induction l with
  | nil => rfl
  | cons y t ih =>
    have ht : Ris t := fun i j x z hx hz hij => hl (i + 1) (j + 1) x z (by simpa using hx) (by simpa using hz) (by omega)
    rw [fend, List.countP_cons, ih ht]
    by_cases h : y.Epoch ≤ e
    · rw [if_pos h, if_pos (by simpa using h)]
    · rw [if_neg h, if_neg (by simpa using h)]
      cases t with
      | nil => rfl
      | cons z s =>
        rw [fend, if_neg]
        have := hl 0 1 y z rfl rfl (by omega)
        omega
def zEn : Entry := ⟨0, ByteArray.empty⟩
def epAt (l : List Entry) (i : Nat) : Int := (l.getD i zEn).Epoch
theorem epAt_of {l : List Entry} {i : Nat} {x : Entry} (h : l[i]? = some x) : epAt l i = x.Epoch := by
  unfold epAt; rw [List.getD_eq_getElem?_getD, h]; rfl
/-- an epoch begins here -/
def isSt (l : List Entry) (i : Nat) : Bool := decide (i = 0) || (epAt l (i - 1) != epAt l i)
def startsTo (l : List Entry) : Nat → List Start
  | 0 => []
  | k + 1 => if isSt l k = true then startsTo l k ++ [⟨epAt l k, k⟩] else startsTo l k
def starts (l : List Entry) : List Start := startsTo l l.length
theorem startsTo_len (l : List Entry) : ∀ k, (startsTo l k).length ≤ k
  | 0 => Nat.le_refl _
  | k + 1 => by
    have := startsTo_len l k
    rw [startsTo]
    split
    · simp only [List.length_append, List.length_singleton]; omega
    · omega
theorem startsTo_mem {l : List Entry} {s : Start} : ∀ {k}, s ∈ startsTo l k ↔ ∃ i, i < k ∧ isSt l i = true ∧ s = ⟨epAt l i, i⟩
  | 0 => by simp [startsTo]
  | k + 1 => by
    rw [startsTo]
    constructor
    · intro h
      split at h
      · rename_i hs
        rcases List.mem_append.1 h with h | h
        · obtain ⟨i, h1, h2⟩ := startsTo_mem.1 h
          exact ⟨i, by omega, h2⟩
        · exact ⟨k, by omega, hs, List.mem_singleton.1 h⟩
      · obtain ⟨i, h1, h2⟩ := startsTo_mem.1 h
        exact ⟨i, by omega, h2⟩
    · rintro ⟨i, h1, h2, h3⟩
      by_cases hi : i = k
      · subst hi
        rw [if_pos h2]
        exact List.mem_append_right _ (by rw [h3]; simp)
      · have := startsTo_mem.2 ⟨i, show i < k by omega, h2, h3⟩
        split
        · exact List.mem_append_left _ this
        · exact this
/-- the first entry with its epoch -/
theorem isSt_first {l : List Entry} (hl : Ris l) {i j : Nat} {x y : Entry} (hx : l[i]? = some x) (hs : isSt l i = true) (hy : l[j]? = some y) (he : y.Epoch = x.Epoch) : i ≤ j := by
  apply Classical.byContradiction
  intro hn
  have hi := (List.getElem?_eq_some_iff.1 hx).1
  have hz := List.getElem?_eq_getElem (show i - 1 < l.length by omega)
  unfold isSt at hs
  rw [epAt_of hx, epAt_of hz, Bool.or_eq_true, decide_eq_true_eq, bne_iff_ne] at hs
  have h1 := hl _ _ _ _ hy hz (by omega)
  have h2 := hl _ _ _ _ hz hx (by omega)
  omega
theorem isSt_exists {l : List Entry} {j : Nat} {y : Entry} (hy : l[j]? = some y) : ∃ i x, l[i]? = some x ∧ isSt l i = true ∧ x.Epoch = y.Epoch ∧ i ≤ j := by
  induction j generalizing y with
  | zero => exact ⟨0, y, hy, rfl, rfl, Nat.le_refl _⟩
  | succ j ih =>
    have hj := (List.getElem?_eq_some_iff.1 hy).1
    have hz := List.getElem?_eq_getElem (show j < l.length by omega)
    by_cases he : (l[j]'(by omega)).Epoch = y.Epoch
    · obtain ⟨i, x, h1, h2, h3, h4⟩ := ih hz
      exact ⟨i, x, h1, h2, h3.trans he, by omega⟩
    · refine ⟨j + 1, y, hy, ?_, rfl, Nat.le_refl _⟩
      unfold isSt
      rw [epAt_of hy, Nat.add_sub_cancel, epAt_of hz]
      simp [he]
theorem starts_ep {l : List Entry} {e : Int} : (∃ s, s ∈ starts l ∧ s.Epoch = e) ↔ ∃ (i : Nat) (x : Entry), l[i]? = some x ∧ x.Epoch = e := by
  constructor
  · rintro ⟨s, hs, rfl⟩
    obtain ⟨i, h1, h2, rfl⟩ := startsTo_mem.1 hs
    exact ⟨i, _, List.getElem?_eq_getElem h1, (epAt_of (List.getElem?_eq_getElem h1)).symm⟩
  · rintro ⟨i, x, hx, rfl⟩
    obtain ⟨j, y, h1, h2, h3, _⟩ := isSt_exists hx
    exact ⟨⟨epAt l j, j⟩, startsTo_mem.2 ⟨j, (List.getElem?_eq_some_iff.1 h1).1, h2, rfl⟩, by rw [epAt_of h1]; exact h3⟩
theorem startsTo_lt (l : List Entry) : ∀ k, (startsTo l k).Pairwise (fun s t => s.At < t.At)
  | 0 => List.Pairwise.nil
  | k + 1 => by
    rw [startsTo]
    split
    · refine List.pairwise_append.2 ⟨startsTo_lt l k, List.pairwise_singleton _ _, fun a ha b hb => ?_⟩
      obtain ⟨i, h1, _, rfl⟩ := startsTo_mem.1 ha
      rw [List.mem_singleton.1 hb]
      show (i : Int) < k
      omega
    · exact startsTo_lt l k
theorem startsTo_ep {l : List Entry} (hl : Ris l) {k : Nat} (hk : k ≤ l.length) : (startsTo l k).Pairwise (fun s t => s.Epoch < t.Epoch) := by
  refine (startsTo_lt l k).imp_of_mem fun {s t} hs ht h => ?_
  obtain ⟨i, h1, h2, rfl⟩ := startsTo_mem.1 hs
  obtain ⟨j, h3, h4, rfl⟩ := startsTo_mem.1 ht
  have hij : i < j := by have : (i : Int) < j := h; omega
  have hx := List.getElem?_eq_getElem (show i < l.length by omega)
  have hy := List.getElem?_eq_getElem (show j < l.length by omega)
  show epAt l i < epAt l j
  rw [epAt_of hx, epAt_of hy]
  have h5 := hl _ _ _ _ hx hy (by omega)
  rcases Int.lt_or_eq_of_le h5 with h | h
  · exact h
  · have := isSt_first hl hy h4 hx h; omega
/-- the start behind an epoch's is the epoch's end -/
theorem starts_next {l : List Entry} (hl : Ris l) {k : Nat} {s : Start} (hs : (starts l)[k]? = some s) : (∀ t, (starts l)[k + 1]? = some t → t.At = fend l s.Epoch) ∧ ((starts l).length ≤ k + 1 → l.length = fend l s.Epoch) := by
  have hm := List.mem_of_getElem? hs
  obtain ⟨i, h1, h2, rfl⟩ := startsTo_mem.1 hm
  have hx := List.getElem?_eq_getElem h1
  have hp : (starts l).Pairwise (fun s t => s.Epoch < t.Epoch) := startsTo_ep hl (Nat.le_refl l.length)
  have hk := (List.getElem?_eq_some_iff.1 hs).1
  -- every start with a greater epoch comes later
  have later : ∀ (j : Nat) (y : Entry), l[j]? = some y → l[i].Epoch < y.Epoch → ∃ m t, k < m ∧ (starts l)[m]? = some t ∧ t.At ≤ j ∧ t.Epoch = y.Epoch := by
    intro j y hy hlt
    obtain ⟨j', y', g1, g2, g3, g4⟩ := isSt_exists hy
    have hmem : (⟨epAt l j', j'⟩ : Start) ∈ starts l := startsTo_mem.2 ⟨j', (List.getElem?_eq_some_iff.1 g1).1, g2, rfl⟩
    obtain ⟨m, hm⟩ := List.mem_iff_getElem?.1 hmem
    refine ⟨m, _, ?_, hm, by show (j' : Int) ≤ j; omega, by show epAt l j' = _; rw [epAt_of g1, g3]⟩
    have hml := (List.getElem?_eq_some_iff.1 hm)
    apply Classical.byContradiction
    intro hn
    obtain ⟨hk1, hk2⟩ := List.getElem?_eq_some_iff.1 hs
    have hle : (starts l)[m].Epoch ≤ (starts l)[k].Epoch := by
      rcases Nat.lt_or_ge m k with h | h
      · exact Int.le_of_lt (List.pairwise_iff_getElem.1 hp m k hml.1 hk1 h)
      · have : m = k := by omega
        subst this; exact Int.le_refl _
    rw [hml.2, hk2] at hle
    have e1 : epAt l j' ≤ epAt l i := hle
    rw [epAt_of g1, epAt_of hx] at e1
    omega
  constructor
  · intro t ht
    obtain ⟨hk1, hk2⟩ := List.getElem?_eq_some_iff.1 ht
    obtain ⟨hk3, hk4⟩ := List.getElem?_eq_some_iff.1 hs
    obtain ⟨j, g1, g2, rfl⟩ := startsTo_mem.1 (List.mem_of_getElem? ht)
    have hy := List.getElem?_eq_getElem g1
    have hlt := List.pairwise_iff_getElem.1 hp k (k + 1) hk3 hk1 (by omega)
    rw [hk2, hk4] at hlt
    have hlt' : epAt l i < epAt l j := hlt
    rw [epAt_of hx, epAt_of hy] at hlt'
    show (j : Int) = fend l (epAt l i)
    rw [epAt_of hx]
    congr 1
    symm
    refine fend_of (by omega) (fun a z ha hz => ?_) (fun z hz => by rw [hy] at hz; injection hz with hz; rw [← hz]; exact hlt')
    apply Classical.byContradiction
    intro hn
    obtain ⟨m, t, q1, q2, q3, q4⟩ := later a z hz (by omega)
    have hat : (starts l).Pairwise (fun s t => s.At < t.At) := startsTo_lt l l.length
    obtain ⟨hq1, hq2⟩ := List.getElem?_eq_some_iff.1 q2
    have : (starts l)[k + 1].At ≤ (starts l)[m].At := by
      rcases Nat.lt_or_ge (k + 1) m with h | h
      · exact Int.le_of_lt (List.pairwise_iff_getElem.1 hat (k + 1) m hk1 hq1 h)
      · have : m = k + 1 := by omega
        subst this; exact Int.le_refl _
    rw [hq2, hk2] at this
    have this' : (j : Int) ≤ t.At := this
    omega
  · intro hlen
    show l.length = fend l (epAt l i)
    rw [epAt_of hx]
    symm
    refine fend_of (Nat.le_refl _) (fun a z ha hz => ?_) (fun z hz => by simp at hz)
    apply Classical.byContradiction
    intro hn
    obtain ⟨m, t, q1, q2, q3, q4⟩ := later a z hz (by omega)
    have := (List.getElem?_eq_some_iff.1 q2).1
    omega
def hasEp (l : List Entry) (e : Int) : Bool := l.any (fun x => x.Epoch == e)
theorem hasEp_iff {l : List Entry} {e : Int} : hasEp l e = true ↔ ∃ (i : Nat) (x : Entry), l[i]? = some x ∧ x.Epoch = e := by
  unfold hasEp
  rw [List.any_eq_true]
  constructor
  · rintro ⟨x, hx, he⟩
    obtain ⟨i, hi⟩ := List.mem_iff_getElem?.1 hx
    exact ⟨i, x, hi, by simpa using he⟩
  · rintro ⟨i, x, hx, he⟩
    exact ⟨x, List.mem_of_getElem? hx, by simpa using he⟩
/-- up to where a follower keeps its entries -/
def ffind (a b : List Entry) : Nat := match (starts a).reverse.find? (fun s => hasEp b s.Epoch) with
  | none => 0
  | some s => min (fend a s.Epoch) (fend b s.Epoch)
theorem ffind_le (a b : List Entry) : ffind a b ≤ a.length ∧ ffind a b ≤ b.length := by
  unfold ffind
  split
  · omega
  · rename_i s _
    have := fend_le a s.Epoch
    have := fend_le b s.Epoch
    omega
end Pl
end Go.Proofs.Ytihendiakgfpcaa

/-
  Plain functions: logs with one history: a follower keeps what is the leader's. No program in sight. No conditions.
-/
namespace Go.Proofs.Ytihendiakgfpcaa
namespace Pl
theorem hasEp_of {l : List Entry} {i : Nat} {x : Entry} (h : l[i]? = some x) : hasEp l x.Epoch = true := hasEp_iff.2 ⟨i, x, h, rfl⟩
/-- what a search has found -/
theorem ffind_spec {a b : List Entry} (ha : Ris a) : (ffind a b = 0 ∧ ∀ (i : Nat) (x : Entry), a[i]? = some x → hasEp b x.Epoch = false) ∨
    ∃ e, hasEp a e = true ∧ hasEp b e = true ∧ ffind a b = min (fend a e) (fend b e) ∧ ∀ (i : Nat) (x : Entry), a[i]? = some x → hasEp b x.Epoch = true → x.Epoch ≤ e := by
  unfold ffind
  cases hf : (starts a).reverse.find? (fun s => hasEp b s.Epoch) with
  | none =>
    left
    refine ⟨rfl, fun i x hx => ?_⟩
    obtain ⟨s, hs, he⟩ := starts_ep.2 ⟨i, x, hx, rfl⟩
    have := List.find?_eq_none.1 hf s (List.mem_reverse.2 hs)
    rw [he] at this
    simpa using this
  | some s =>
    right
    obtain ⟨h1, as1, bs1, h2, h3⟩ := List.find?_eq_some_iff_append.1 hf
    have h4 : starts a = bs1.reverse ++ s :: as1.reverse := by
      have := congrArg List.reverse h2
      simpa using this
    have hmem : s ∈ starts a := by rw [h4]; simp
    refine ⟨s.Epoch, hasEp_iff.2 (starts_ep.1 ⟨s, hmem, rfl⟩), h1, rfl, fun i x hx hb => ?_⟩
    obtain ⟨t, ht, he⟩ := starts_ep.2 ⟨i, x, hx, rfl⟩
    have hp : (starts a).Pairwise (fun s t => s.Epoch < t.Epoch) := startsTo_ep ha (Nat.le_refl _)
    rw [h4] at ht hp
    rcases List.mem_append.1 ht with h | h
    · rw [← he]
      exact Int.le_of_lt ((List.pairwise_append.1 hp).2.2 t h s (by simp))
    · rcases List.mem_cons.1 h with h | h
      · rw [← he, h]; exact Int.le_refl _
      · have := h3 t (List.mem_reverse.1 h)
        rw [he, hb] at this
        simp at this
theorem fend_pos {l : List Entry} (hl : Ris l) {e : Int} (h : hasEp l e = true) : ∃ (i : Nat) (x : Entry), l[i]? = some x ∧ x.Epoch = e ∧ isSt l i = true ∧ i < fend l e := by
  obtain ⟨j, y, hy, rfl⟩ := hasEp_iff.1 h
  obtain ⟨i, x, h1, h2, h3, h4⟩ := isSt_exists hy
  exact ⟨i, x, h1, h3, h2, (fend_iff hl h1).2 (by omega)⟩
/-- all entries of a log are the history's of their epochs -/
def Hist (H : Int → List Entry) (l : List Entry) : Prop := ∀ (i : Nat) (x : Entry), l[i]? = some x → l.take (i + 1) = (H x.Epoch).take (i + 1)
theorem hist_same {H : Int → List Entry} {a b : List Entry} (ha : Hist H a) (hb : Hist H b) {i : Nat} {x y : Entry} (hx : a[i]? = some x) (hy : b[i]? = some y) (he : x.Epoch = y.Epoch) : a.take (i + 1) = b.take (i + 1) := by
  rw [ha i x hx, hb i y hy, he]
theorem take_get {α : Type} {a b : List α} {n i : Nat} (h : a.take n = b.take n) (hi : i < n) : a[i]? = b[i]? := by
  have := congrArg (·[i]?) h
  simpa [List.getElem?_take, hi] using this
theorem hist_start {H : Int → List Entry} {a b : List Entry} (ha : Hist H a) (hb : Hist H b) (hra : Ris a) (hrb : Ris b) {i j : Nat} {x y : Entry} (hx : a[i]? = some x) (hy : b[j]? = some y) (he : x.Epoch = y.Epoch) (hi : isSt a i = true) (hj : isSt b j = true) : i = j := by
  have h1 := ha i x hx
  have h2 := hb j y hy
  rcases Nat.lt_trichotomy i j with h | h | h
  · have h3 := take_get h2 (show i < j + 1 by omega)
    have h4 := take_get h1 (show i < i + 1 by omega)
    rw [he] at h4
    rw [← h4, hx] at h3
    have := isSt_first hrb hy hj h3 he
    omega
  · exact h
  · have h3 := take_get h1 (show j < i + 1 by omega)
    have h4 := take_get h2 (show j < j + 1 by omega)
    rw [he, ← h4, hy] at h3
    have := isSt_first hra hx hi h3 he.symm
    omega
/-- up to there the two logs are alike -/
theorem ffind_take {H : Int → List Entry} {a b : List Entry} (ha : Hist H a) (hb : Hist H b) (hra : Ris a) (hrb : Ris b) : a.take (ffind a b) = b.take (ffind a b) := by
  rcases ffind_spec (b := b) hra with ⟨h, _⟩ | ⟨e, h1, h2, h3, _⟩
  · rw [h]; rfl
  · obtain ⟨i, x, g1, g2, g3, g4⟩ := fend_pos hra h1
    obtain ⟨j, y, k1, k2, k3, k4⟩ := fend_pos hrb h2
    have hij := hist_start ha hb hra hrb g1 k1 (g2.trans k2.symm) g3 k3
    subst hij
    rw [h3]
    obtain ⟨m, hm⟩ : ∃ m, min (fend a e) (fend b e) = m + 1 := ⟨min (fend a e) (fend b e) - 1, by omega⟩
    rw [hm]
    have l1 := fend_le a e
    have l2 := fend_le b e
    have e1 := List.getElem?_eq_getElem (show m < a.length by omega)
    have e2 := List.getElem?_eq_getElem (show m < b.length by omega)
    refine hist_same ha hb e1 e2 ?_
    have q1 := fend_in a e m _ (by omega) e1
    have q2 := fend_in b e m _ (by omega) e2
    have q3 := hra _ _ _ _ g1 e1 (by omega)
    have q4 := hrb _ _ _ _ k1 e2 (by omega)
    omega
/-- what begins both logs is kept -/
theorem ffind_ge {a b c : List Entry} (hra : Ris a) (hrb : Ris b) (ha : c <+: a) (hb : c <+: b) : c.length ≤ ffind a b := by
  cases hc : c.length with
  | zero => exact Nat.zero_le _
  | succ n =>
    have hz := List.getElem?_eq_getElem (show n < c.length by omega)
    have ha' := (List.prefix_iff_getElem?.1 ha) n (by omega)
    have hb' := (List.prefix_iff_getElem?.1 hb) n (by omega)
    have hbe := hasEp_of hb'
    rcases ffind_spec (b := b) hra with ⟨_, h⟩ | ⟨e, h1, h2, h3, h4⟩
    · rw [h n _ ha'] at hbe; cases hbe
    · have := h4 n _ ha' hbe
      rw [h3]
      have g1 := (fend_iff hra ha').2 this
      have g2 := (fend_iff hrb hb').2 this
      omega
theorem ffind_prefix {a b : List Entry} (hra : Ris a) (hrb : Ris b) (h : a <+: b) : ffind a b = a.length :=
  Nat.le_antisymm (ffind_le a b).1 (ffind_ge hra hrb (List.prefix_refl _) h)
/-- what a follower has behind a fetch -/
def fetchL (own other : List Entry) : List Entry := own.take (ffind own other) ++ (other[ffind own other]?).toList
theorem fetchL_take {H : Int → List Entry} {a b : List Entry} (ha : Hist H a) (hb : Hist H b) (hra : Ris a) (hrb : Ris b) : fetchL a b = b.take (ffind a b + 1) := by
  unfold fetchL
  rw [ffind_take ha hb hra hrb]
  cases h : b[ffind a b]? with
  | none =>
    have := List.getElem?_eq_none_iff.1 h
    rw [List.take_of_length_le (show b.length ≤ ffind a b + 1 by omega), List.take_of_length_le this]
    simp
  | some x =>
    obtain ⟨h1, h2⟩ := List.getElem?_eq_some_iff.1 h
    rw [List.take_succ_eq_append_getElem h1, h2]
    rfl
theorem Hist.take {H : Int → List Entry} {l : List Entry} (h : Hist H l) (n : Nat) : Hist H (l.take n) := fun i x hx => by
  rw [List.getElem?_take] at hx
  split at hx
  · rename_i hi
    rw [List.take_take, Nat.min_eq_left (by omega)]
    exact h i x hx
  · cases hx
def entOk (x : Entry) : Bool := isIn x.Epoch 1 1000 && decide (x.Text.size ≤ 20)
structure LogOk (l : List Entry) : Prop where
  ris : Ris l
  len : l.length ≤ 40
  ok : ∀ (i : Nat) (x : Entry), l[i]? = some x → entOk x = true
theorem LogOk.take {l : List Entry} (h : LogOk l) (n : Nat) : LogOk (l.take n) := ⟨h.ris.take n, by rw [List.length_take]; have := h.len; omega, fun i x hx => by
  rw [List.getElem?_take] at hx
  split at hx
  · exact h.ok i x hx
  · cases hx⟩
theorem LogOk.nil : LogOk [] := ⟨fun i j x y hx => by simp at hx, Nat.zero_le _, fun i x hx => by simp at hx⟩
theorem LogOk.pre {l c : List Entry} (h : LogOk l) (hc : c <+: l) : LogOk c := by
  rw [List.prefix_iff_eq_take.1 hc]; exact h.take _
def lastEp (l : List Entry) : Int := if l.length = 0 then 0 else epAt l (l.length - 1)
theorem LogOk.snoc {l : List Entry} (h : LogOk l) (hl : l.length ≠ 40) {x : Entry} (hx : entOk x = true) (hle : lastEp l ≤ x.Epoch) : LogOk (l ++ [x]) := by
  have hlen := h.len
  refine ⟨fun i j y z hy hz hij => ?_, by simp; omega, fun i y hy => ?_⟩
  · rcases Nat.lt_or_ge j l.length with hj | hj
    · rw [List.getElem?_append_left hj] at hz
      rw [List.getElem?_append_left (by omega)] at hy
      exact h.ris i j y z hy hz hij
    · have hj2 := (List.getElem?_eq_some_iff.1 hz).1
      have : j = l.length := by simp at hj2; omega
      subst this
      rw [List.getElem?_append_right (Nat.le_refl _)] at hz
      simp at hz
      subst hz
      rcases Nat.lt_or_ge i l.length with hi | hi
      · rw [List.getElem?_append_left hi] at hy
        have hq := List.getElem?_eq_getElem (show l.length - 1 < l.length by omega)
        have := h.ris _ _ _ _ hy hq (by omega)
        unfold lastEp at hle
        rw [if_neg (by omega), epAt_of hq] at hle
        omega
      · have : i = l.length := by omega
        subst this
        rw [List.getElem?_append_right (Nat.le_refl _)] at hy
        simp at hy
        rw [hy]; exact Int.le_refl _
  · rcases Nat.lt_or_ge i l.length with hi | hi
    · rw [List.getElem?_append_left hi] at hy
      exact h.ok i y hy
    · have hj2 := (List.getElem?_eq_some_iff.1 hy).1
      have : i = l.length := by simp at hj2; omega
      subst this
      rw [List.getElem?_append_right (Nat.le_refl _)] at hy
      simp at hy
      rw [← hy]; exact hx
theorem Hist.snoc {H : Int → List Entry} {l : List Entry} (h : Hist H l) {x : Entry} (hx : (H x.Epoch).take (l.length + 1) = l ++ [x]) : Hist H (l ++ [x]) := fun i y hy => by
  rcases Nat.lt_or_ge i l.length with hi | hi
  · rw [List.getElem?_append_left hi] at hy
    rw [List.take_append_of_le_length (by omega)]
    exact h i y hy
  · have hj2 := (List.getElem?_eq_some_iff.1 hy).1
    have : i = l.length := by simp at hj2; omega
    subst this
    rw [List.getElem?_append_right (Nat.le_refl _)] at hy
    simp at hy
    subst hy
    rw [hx, List.take_of_length_le (by simp)]
end Pl
end Go.Proofs.Ytihendiakgfpcaa

/-
  Plain functions: replication: the steps, what every state that is played meets. No program in sight. No conditions.
-/
namespace Go.Proofs.Ytihendiakgfpcaa
namespace Pl
def logAt (r : Repl) (k : Int) : List Entry := r.Logs.getD k.toNat []
def downAt (r : Repl) (k : Int) : Bool := r.Down.getD k.toNat false
theorem logAt_of {r : Repl} {k : Int} {l : List Entry} (h : r.Logs[k.toNat]? = some l) : logAt r k = l := by
  unfold logAt; rw [List.getD_eq_getElem?_getD, h]; rfl
theorem downAt_of {r : Repl} {k : Int} {b : Bool} (h : r.Down[k.toNat]? = some b) : downAt r k = b := by
  unfold downAt; rw [List.getD_eq_getElem?_getD, h]; rfl
def hasI (l : List Int) (k : Int) : Bool := l.any (fun x => x == k)
theorem hasI_iff {l : List Int} {k : Int} : hasI l k = true ↔ k ∈ l := by
  unfold hasI; rw [List.any_eq_true]
  exact ⟨fun ⟨x, hx, he⟩ => by rw [← beq_iff_eq.1 he]; exact hx, fun h => ⟨k, h, by simp⟩⟩
/-- how many entries all nodes of a list have as the leader has them, no more than so many -/
def certF (r : Repl) (n : Nat) (l : List Int) : Nat := l.foldl (fun n k => min n (part (logAt r r.Leader) (logAt r k))) n
def certain (r : Repl) : Nat := certF r (logAt r r.Leader).length r.InSync
theorem certF_snoc (r : Repl) (n : Nat) (l : List Int) (k : Int) : certF r n (l ++ [k]) = min (certF r n l) (part (logAt r r.Leader) (logAt r k)) := by
  unfold certF; rw [List.foldl_append]; rfl
theorem certF_le (r : Repl) : ∀ (l : List Int) (n : Nat), certF r n l ≤ n ∧ ∀ k, k ∈ l → certF r n l ≤ part (logAt r r.Leader) (logAt r k)
  | [], n => ⟨Nat.le_refl _, fun k h => by cases h⟩
  | k :: t, n => by
    have h := certF_le r t (min n (part (logAt r r.Leader) (logAt r k)))
    show certF r (min n _) t ≤ n ∧ ∀ j, j ∈ k :: t → certF r (min n _) t ≤ _
    refine ⟨by omega, fun j hj => ?_⟩
    rcases List.mem_cons.1 hj with rfl | hj
    · omega
    · exact h.2 j hj
theorem certF_ge (r : Repl) : ∀ (l : List Int) (n m : Nat), m ≤ n → (∀ k, k ∈ l → m ≤ part (logAt r r.Leader) (logAt r k)) → m ≤ certF r n l
  | [], n, m, h, _ => h
  | k :: t, n, m, h, hk => certF_ge r t (min n (part (logAt r r.Leader) (logAt r k))) m (by have := hk k (by simp); omega) (fun j hj => hk j (by simp [hj]))
/-- the start does not matter, where the leader is in the list -/
theorem certF_start (r : Repl) {l : List Int} (hl : r.Leader ∈ l) {n : Nat} (hn : (logAt r r.Leader).length ≤ n) : certF r n l = certF r (logAt r r.Leader).length l := by
  have h1 := certF_le r l n
  have h2 := certF_le r l (logAt r r.Leader).length
  have h3 := h1.2 _ hl
  rw [part_self] at h3
  exact Nat.le_antisymm (certF_ge r l _ _ h3 h1.2) (certF_ge r l _ _ (by omega) h2.2)
def rfetch (r : Repl) (k : Int) : Repl := { r with Logs := r.Logs.set k.toNat (fetchL (logAt r k) (logAt r r.Leader)) }
def outI (l : List Int) (k : Int) : List Int := l.filter (fun x => x != k)
def insI (l : List Int) (k : Int) : List Int := l.filter (fun x => decide (x < k)) ++ k :: l.filter (fun x => decide (k < x))
def sameLog (r : Repl) (k : Int) : Bool := decide ((logAt r k).length = (logAt r r.Leader).length) && decide (part (logAt r k) (logAt r r.Leader) = (logAt r r.Leader).length)
theorem sameLog_iff {r : Repl} {k : Int} : sameLog r k = true ↔ logAt r k = logAt r r.Leader := by
  unfold sameLog
  rw [Bool.and_eq_true, decide_eq_true_eq, decide_eq_true_eq]
  constructor
  · rintro ⟨h1, h2⟩
    have := part_full.1 h2
    exact (this.eq_of_length h1.symm).symm
  · intro h
    rw [h]; exact ⟨rfl, part_self _⟩
def rdo (r : Repl) (s : ReplStep) : Repl × Bool :=
  if s.Kind = 1 then
    if s.Node = 0 ∧ downAt r r.Leader = false ∧ s.Text.size ≤ 20 ∧ (logAt r r.Leader).length ≠ 40 ∧ lastEp (logAt r r.Leader) ≤ r.Epoch then
      ({ r with Logs := r.Logs.set r.Leader.toNat (logAt r r.Leader ++ [⟨r.Epoch, s.Text⟩]) }, true) else (r, false)
  else if s.Text.size ≠ 0 ∨ s.Node < 0 ∨ (r.Logs.length : Int) ≤ s.Node then (r, false)
  else if s.Kind = 2 then (if s.Node ≠ r.Leader ∧ downAt r r.Leader = false ∧ downAt r s.Node = false then (rfetch r s.Node, true) else (r, false))
  else if s.Kind = 3 then (if hasI r.InSync s.Node = true ∧ s.Node ≠ r.Leader ∧ downAt r r.Leader = false then ({ r with InSync := outI r.InSync s.Node }, true) else (r, false))
  else if s.Kind = 4 then (if hasI r.InSync s.Node = false ∧ downAt r r.Leader = false ∧ sameLog r s.Node = true then ({ r with InSync := insI r.InSync s.Node }, true) else (r, false))
  else if s.Kind = 5 then (if downAt r s.Node = false then ({ r with Down := r.Down.set s.Node.toNat true }, true) else (r, false))
  else if s.Kind = 6 then (if downAt r s.Node = true then ({ r with Down := r.Down.set s.Node.toNat false }, true) else (r, false))
  else if s.Kind = 7 then (if hasI r.InSync s.Node = true ∧ downAt r s.Node = false ∧ r.Epoch < 1000 then ({ r with Leader := s.Node, Epoch := r.Epoch + 1 }, true) else (r, false))
  else (r, false)
def rcert (r : Repl) : Repl := { r with Certain := if r.Certain.length < certain r then (logAt r r.Leader).take (certain r) else r.Certain }
def rstep (r : Repl) (s : ReplStep) : Repl × Bool := if (rdo r s).2 = true then (rcert (rdo r s).1, true) else (r, false)
/-- what a step asks of a state: what isRepl tells -/
structure RW (r : Repl) : Prop where
  n1 : 1 ≤ r.Logs.length
  n5 : r.Logs.length ≤ 5
  down : r.Down.length = r.Logs.length
  lead : 0 ≤ r.Leader ∧ r.Leader < r.Logs.length
  epoch : 1 ≤ r.Epoch ∧ r.Epoch ≤ 1000
  sync : r.InSync.Pairwise (· < ·)
  syncIn : ∀ k, k ∈ r.InSync → 0 ≤ k ∧ k < r.Logs.length
  leadIn : r.Leader ∈ r.InSync
  logs : ∀ (k : Nat) (l : List Entry), r.Logs[k]? = some l → LogOk l
  cert : ∀ k, k ∈ r.InSync → r.Certain <+: logAt r k
theorem RW.at_ {r : Repl} (_h : RW r) {k : Int} (h0 : 0 ≤ k) (h1 : k < r.Logs.length) : r.Logs[k.toNat]? = some (logAt r k) := by
  have hx := List.getElem?_eq_getElem (show k.toNat < r.Logs.length by omega)
  rw [logAt_of hx]; exact hx
theorem RW.ok {r : Repl} (h : RW r) {k : Int} (h0 : 0 ≤ k) (h1 : k < r.Logs.length) : LogOk (logAt r k) := h.logs _ _ (h.at_ h0 h1)
theorem RW.dat {r : Repl} (h : RW r) {k : Int} (h0 : 0 ≤ k) (h1 : k < r.Logs.length) : r.Down[k.toNat]? = some (downAt r k) := by
  have hx := List.getElem?_eq_getElem (show k.toNat < r.Down.length by have := h.down; omega)
  rw [downAt_of hx]; exact hx
theorem RW.certain_ge {r : Repl} (h : RW r) : r.Certain.length ≤ certain r := by
  have hc := h.cert _ h.leadIn
  refine certF_ge r _ _ _ hc.length_le fun k hk => ?_
  have h1 := List.prefix_iff_eq_take.1 hc
  have h2 := List.prefix_iff_eq_take.1 (h.cert k hk)
  exact part_ge _ _ _ hc.length_le (h.cert k hk).length_le (by rw [← h1, ← h2])
theorem mem_outI {l : List Int} {k x : Int} : x ∈ outI l k ↔ x ∈ l ∧ x ≠ k := by unfold outI; rw [List.mem_filter, bne_iff_ne]
theorem mem_insI {l : List Int} {k x : Int} : x ∈ insI l k ↔ x = k ∨ (x ∈ l ∧ x ≠ k) := by
  unfold insI
  rw [List.mem_append, List.mem_cons, List.mem_filter, List.mem_filter, decide_eq_true_eq, decide_eq_true_eq]
  constructor
  · rintro (⟨h1, h2⟩ | h | ⟨h1, h2⟩)
    · exact .inr ⟨h1, by omega⟩
    · exact .inl h
    · exact .inr ⟨h1, by omega⟩
  · rintro (h | ⟨h1, h2⟩)
    · exact .inr (.inl h)
    · rcases Int.lt_or_gt_of_ne h2 with h | h
      · exact .inl ⟨h1, h⟩
      · exact .inr (.inr ⟨h1, h⟩)
theorem insI_sorted {l : List Int} (h : l.Pairwise (· < ·)) (k : Int) : (insI l k).Pairwise (· < ·) := by
  unfold insI
  refine List.pairwise_append.2 ⟨h.filter _, List.pairwise_cons.2 ⟨fun x hx => ?_, h.filter _⟩, fun x hx y hy => ?_⟩
  · simpa using (List.mem_filter.1 hx).2
  · have h1 : x < k := by simpa using (List.mem_filter.1 hx).2
    rcases List.mem_cons.1 hy with rfl | hy
    · exact h1
    · have : k < y := by simpa using (List.mem_filter.1 hy).2
      omega
/-- what every state that is played meets -/
structure RInv (r : Repl) : Prop where
  rw : RW r
  hist : ∃ H : Int → List Entry, (∀ (k : Nat) (l : List Entry), r.Logs[k]? = some l → Hist H l) ∧ H r.Epoch = logAt r r.Leader
  ep : ∀ (k : Nat) (l : List Entry), r.Logs[k]? = some l → ∀ x, x ∈ l → x.Epoch ≤ r.Epoch
  cert : certain r = r.Certain.length
theorem get_set_cases {α : Type} {l : List α} {k j : Nat} {x a : α} (h : (l.set k x)[j]? = some a) : (k = j ∧ a = x ∧ k < l.length) ∨ (k ≠ j ∧ l[j]? = some a) := by
  by_cases hkj : k = j
  · subst hkj
    have hk : k < l.length := by have := (List.getElem?_eq_some_iff.1 h).1; rwa [List.length_set] at this
    rw [List.getElem?_set_self hk] at h
    injection h with h
    exact .inl ⟨rfl, h.symm, hk⟩
  · rw [List.getElem?_set_ne hkj] at h
    exact .inr ⟨hkj, h⟩
theorem logAt_set {r : Repl} {L : List (List Entry)} {k j : Int} {x : List Entry} (hL : r.Logs = L.set k.toNat x) (hk : k.toNat < L.length) : logAt r j = if k.toNat = j.toNat then x else L.getD j.toNat [] := by
  unfold logAt
  rw [hL, List.getD_eq_getElem?_getD, List.getD_eq_getElem?_getD]
  split
  · rename_i h
    rw [← h, List.getElem?_set_self hk]; rfl
  · rename_i h
    rw [List.getElem?_set_ne h]
/-- the certain entries told anew: what is asked of a state ahead of it -/
structure RPre (r : Repl) : Prop where
  rw : RW r
  hist : ∃ H : Int → List Entry, (∀ (k : Nat) (l : List Entry), r.Logs[k]? = some l → Hist H l) ∧ H r.Epoch = logAt r r.Leader
  ep : ∀ (k : Nat) (l : List Entry), r.Logs[k]? = some l → ∀ x, x ∈ l → x.Epoch ≤ r.Epoch
theorem rcert_eq {r : Repl} (h : RW r) : (rcert r).Certain = (logAt r r.Leader).take (certain r) ∧ r.Certain <+: (rcert r).Certain := by
  have h1 := h.certain_ge
  have hc := h.cert _ h.leadIn
  have e : (rcert r).Certain = (logAt r r.Leader).take (certain r) := by
    show (if _ then _ else _) = _
    split
    · rfl
    · have : certain r = r.Certain.length := by omega
      rw [this]; exact List.prefix_iff_eq_take.1 hc
  refine ⟨e, ?_⟩
  rw [e]
  rw [List.prefix_iff_eq_take.1 hc]
  exact List.take_prefix_take_left h1
theorem RPre.inv {r : Repl} (h : RPre r) : RInv (rcert r) := by
  have hw := h.rw
  have e := rcert_eq hw
  have hcl := certF_le r r.InSync (logAt r r.Leader).length
  refine ⟨⟨hw.n1, hw.n5, hw.down, hw.lead, hw.epoch, hw.sync, hw.syncIn, hw.leadIn, hw.logs, fun k hk => ?_⟩, h.hist, h.ep, ?_⟩
  · show (rcert r).Certain <+: logAt r k
    rw [e.1]
    have h1 : certain r ≤ _ := hcl.2 k hk
    have h2 := part_take (logAt r r.Leader) (logAt r k)
    have h3 : (logAt r r.Leader).take (certain r) = (logAt r k).take (certain r) := by
      have := congrArg (List.take (certain r)) h2
      rwa [List.take_take, List.take_take, Nat.min_eq_left h1] at this
    rw [h3]
    exact List.take_prefix _ _
  · show certain r = (rcert r).Certain.length
    rw [e.1, List.length_take]
    have : certain r ≤ (logAt r r.Leader).length := hcl.1
    omega
theorem RInv.do_ {r : Repl} (h : RInv r) (s : ReplStep) (hok : (rdo r s).2 = true) : RPre (rdo r s).1 ∧ (rdo r s).1.Certain = r.Certain := by
  obtain ⟨hw, ⟨H, hH, hE⟩, hep, hcert⟩ := h
  have hlat := hw.at_ hw.lead.1 hw.lead.2
  have hlen := (List.getElem?_eq_some_iff.1 hlat).1
  have HIST : ∀ (k : Int), 0 ≤ k → k < r.Logs.length → Hist H (logAt r k) := fun k h0 h1 => hH _ _ (hw.at_ h0 h1)
  unfold rdo at hok ⊢
  by_cases h1 : s.Kind = 1
  · rw [if_pos h1] at hok ⊢
    by_cases h2 : s.Node = 0 ∧ downAt r r.Leader = false ∧ s.Text.size ≤ 20 ∧ (logAt r r.Leader).length ≠ 40 ∧ lastEp (logAt r r.Leader) ≤ r.Epoch
    · rw [if_pos h2]
      obtain ⟨_, _, g1, g2, g3⟩ := h2
      have hxo : entOk ⟨r.Epoch, s.Text⟩ = true := by unfold entOk isIn; simp; exact ⟨hw.epoch, g1⟩
      have hL : LogOk (logAt r r.Leader ++ [⟨r.Epoch, s.Text⟩]) := (hw.ok hw.lead.1 hw.lead.2).snoc g2 hxo g3
      have hset : ∀ j : Int, 0 ≤ j → logAt { r with Logs := r.Logs.set r.Leader.toNat (logAt r r.Leader ++ [⟨r.Epoch, s.Text⟩]) } j = if r.Leader = j then logAt r r.Leader ++ [⟨r.Epoch, s.Text⟩] else logAt r j := fun j hj => by
        rw [logAt_set (r := { r with Logs := r.Logs.set r.Leader.toNat _ }) rfl hlen]
        by_cases e : r.Leader = j
        · rw [if_pos (by rw [e]), if_pos e]
        · rw [if_neg (by have := hw.lead; omega), if_neg e]; rfl
      refine ⟨⟨⟨by simpa using hw.n1, by simpa using hw.n5, by simpa using hw.down, by simpa using hw.lead, hw.epoch, hw.sync, by simpa using hw.syncIn, hw.leadIn, fun k l hl => ?_, fun k hk => ?_⟩, ⟨fun e => if e = r.Epoch then logAt r r.Leader ++ [⟨r.Epoch, s.Text⟩] else H e, fun k l hl => ?_, ?_⟩, fun k l hl x hx => ?_⟩, rfl⟩
      · rcases get_set_cases hl with ⟨_, rfl, _⟩ | ⟨_, hl⟩
        · exact hL
        · exact hw.logs k l hl
      · show r.Certain <+: _
        rw [hset k (hw.syncIn k hk).1]
        split
        · rename_i e
          subst e
          exact (hw.cert _ hk).trans (List.prefix_append _ _)
        · exact hw.cert k hk
      · have old : ∀ l, Hist H l → Hist (fun e => if e = r.Epoch then logAt r r.Leader ++ [⟨r.Epoch, s.Text⟩] else H e) l := fun l hl i x hx => by
          have h5 := hl i x hx
          show l.take (i + 1) = (if x.Epoch = r.Epoch then _ else _ : List Entry).take (i + 1)
          split
          · rename_i e
            rw [e, hE] at h5
            have hi := (List.getElem?_eq_some_iff.1 hx).1
            have h6 := congrArg List.length h5
            rw [List.length_take, List.length_take] at h6
            rw [List.take_append_of_le_length (by omega)]
            exact h5
          · exact h5
        rcases get_set_cases hl with ⟨_, rfl, _⟩ | ⟨_, hl⟩
        · refine (old _ (hH _ _ hlat)).snoc ?_
          show (if r.Epoch = r.Epoch then _ else _ : List Entry).take _ = _
          rw [if_pos rfl, List.take_of_length_le (by simp)]
        · exact old l (hH k l hl)
      · show (if r.Epoch = r.Epoch then _ else _ : List Entry) = logAt _ r.Leader
        rw [if_pos rfl, hset _ hw.lead.1, if_pos rfl]
      · rcases get_set_cases hl with ⟨_, rfl, _⟩ | ⟨_, hl⟩
        · rcases List.mem_append.1 hx with hx | hx
          · exact hep _ _ hlat x hx
          · rw [List.mem_singleton.1 hx]; exact Int.le_refl _
        · exact hep k l hl x hx
    · rw [if_neg h2] at hok; cases hok
  rw [if_neg h1] at hok ⊢
  by_cases h2 : s.Text.size ≠ 0 ∨ s.Node < 0 ∨ (r.Logs.length : Int) ≤ s.Node
  · rw [if_pos h2] at hok; cases hok
  rw [if_neg h2] at hok ⊢
  have hk0 : 0 ≤ s.Node := by omega
  have hk1 : s.Node < r.Logs.length := by omega
  by_cases h3 : s.Kind = 2
  · rw [if_pos h3] at hok ⊢
    by_cases h4 : s.Node ≠ r.Leader ∧ downAt r r.Leader = false ∧ downAt r s.Node = false
    · rw [if_pos h4]
      have ho := hw.ok hk0 hk1
      have hlo := hw.ok hw.lead.1 hw.lead.2
      have hkn : s.Node.toNat < r.Logs.length := by omega
      have hf : fetchL (logAt r s.Node) (logAt r r.Leader) = (logAt r r.Leader).take (ffind (logAt r s.Node) (logAt r r.Leader) + 1) := fetchL_take (HIST _ hk0 hk1) (HIST _ hw.lead.1 hw.lead.2) ho.ris hlo.ris
      have hset : ∀ j : Int, 0 ≤ j → logAt (rfetch r s.Node) j = if s.Node = j then fetchL (logAt r s.Node) (logAt r r.Leader) else logAt r j := fun j hj => by
        rw [logAt_set (r := rfetch r s.Node) rfl hkn]
        by_cases e : s.Node = j
        · rw [if_pos (by rw [e]), if_pos e]
        · rw [if_neg (by omega), if_neg e]; rfl
      refine ⟨⟨⟨by simpa [rfetch] using hw.n1, by simpa [rfetch] using hw.n5, by simpa [rfetch] using hw.down, by simpa [rfetch] using hw.lead, hw.epoch, hw.sync, by simpa [rfetch] using hw.syncIn, hw.leadIn, fun k l hl => ?_, fun k hk => ?_⟩, ⟨H, fun k l hl => ?_, ?_⟩, fun k l hl x hx => ?_⟩, rfl⟩
      · rcases get_set_cases hl with ⟨_, rfl, _⟩ | ⟨_, hl⟩
        · rw [hf]; exact hlo.take _
        · exact hw.logs k l hl
      · show r.Certain <+: _
        rw [hset k (hw.syncIn k hk).1]
        split
        · rename_i e
          subst e
          rw [hf]
          have h5 := ffind_ge ho.ris hlo.ris (hw.cert _ hk) (hw.cert _ hw.leadIn)
          rw [List.prefix_iff_eq_take.1 (hw.cert _ hw.leadIn)]
          exact List.take_prefix_take_left (by omega)
        · exact hw.cert k hk
      · rcases get_set_cases hl with ⟨_, rfl, _⟩ | ⟨_, hl⟩
        · rw [hf]; exact (HIST _ hw.lead.1 hw.lead.2).take _
        · exact hH k l hl
      · show H r.Epoch = logAt (rfetch r s.Node) r.Leader
        rw [hset _ hw.lead.1, if_neg h4.1]; exact hE
      · rcases get_set_cases hl with ⟨_, rfl, _⟩ | ⟨_, hl⟩
        · rw [hf] at hx
          exact hep _ _ hlat x (List.mem_of_mem_take hx)
        · exact hep k l hl x hx
    · rw [if_neg h4] at hok; cases hok
  rw [if_neg h3] at hok ⊢
  by_cases h4 : s.Kind = 3
  · rw [if_pos h4] at hok ⊢
    by_cases h5 : hasI r.InSync s.Node = true ∧ s.Node ≠ r.Leader ∧ downAt r r.Leader = false
    · rw [if_pos h5]
      exact ⟨⟨⟨hw.n1, hw.n5, hw.down, hw.lead, hw.epoch, hw.sync.filter _, fun k hk => hw.syncIn k (mem_outI.1 hk).1, mem_outI.2 ⟨hw.leadIn, fun e => h5.2.1 e.symm⟩, hw.logs, fun k hk => hw.cert k (mem_outI.1 hk).1⟩, ⟨H, hH, hE⟩, hep⟩, rfl⟩
    · rw [if_neg h5] at hok; cases hok
  rw [if_neg h4] at hok ⊢
  by_cases h5 : s.Kind = 4
  · rw [if_pos h5] at hok ⊢
    by_cases h6 : hasI r.InSync s.Node = false ∧ downAt r r.Leader = false ∧ sameLog r s.Node = true
    · rw [if_pos h6]
      have hs := sameLog_iff.1 h6.2.2
      refine ⟨⟨⟨hw.n1, hw.n5, hw.down, hw.lead, hw.epoch, insI_sorted hw.sync _, fun k hk => ?_, mem_insI.2 ?_, hw.logs, fun k hk => ?_⟩, ⟨H, hH, hE⟩, hep⟩, rfl⟩
      · rcases mem_insI.1 hk with rfl | h
        · exact ⟨hk0, hk1⟩
        · exact hw.syncIn k h.1
      · by_cases e : r.Leader = s.Node
        · exact .inl e
        · exact .inr ⟨hw.leadIn, e⟩
      · show r.Certain <+: logAt r k
        rcases mem_insI.1 hk with rfl | h
        · rw [hs]; exact hw.cert _ hw.leadIn
        · exact hw.cert k h.1
    · rw [if_neg h6] at hok; cases hok
  rw [if_neg h5] at hok ⊢
  by_cases h6 : s.Kind = 5
  · rw [if_pos h6] at hok ⊢
    by_cases h7 : downAt r s.Node = false
    · rw [if_pos h7]
      exact ⟨⟨⟨hw.n1, hw.n5, by simpa using hw.down, hw.lead, hw.epoch, hw.sync, hw.syncIn, hw.leadIn, hw.logs, hw.cert⟩, ⟨H, hH, hE⟩, hep⟩, rfl⟩
    · rw [if_neg h7] at hok; cases hok
  rw [if_neg h6] at hok ⊢
  by_cases h7 : s.Kind = 6
  · rw [if_pos h7] at hok ⊢
    by_cases h8 : downAt r s.Node = true
    · rw [if_pos h8]
      exact ⟨⟨⟨hw.n1, hw.n5, by simpa using hw.down, hw.lead, hw.epoch, hw.sync, hw.syncIn, hw.leadIn, hw.logs, hw.cert⟩, ⟨H, hH, hE⟩, hep⟩, rfl⟩
    · rw [if_neg h8] at hok; cases hok
  rw [if_neg h7] at hok ⊢
  by_cases h8 : s.Kind = 7
  · rw [if_pos h8] at hok ⊢
    by_cases h9 : hasI r.InSync s.Node = true ∧ downAt r s.Node = false ∧ r.Epoch < 1000
    · rw [if_pos h9]
      refine ⟨⟨⟨hw.n1, hw.n5, hw.down, ⟨hk0, hk1⟩, by have := hw.epoch; have := h9.2.2; show 1 ≤ r.Epoch + 1 ∧ r.Epoch + 1 ≤ 1000; omega, hw.sync, hw.syncIn, hasI_iff.1 h9.1, hw.logs, hw.cert⟩, ⟨fun e => if e = r.Epoch + 1 then logAt r s.Node else H e, fun k l hl i x hx => ?_, ?_⟩, fun k l hl x hx => ?_⟩, rfl⟩
      · have h10 := hep k l hl x (List.mem_of_getElem? hx)
        show l.take (i + 1) = (if x.Epoch = r.Epoch + 1 then _ else _ : List Entry).take (i + 1)
        rw [if_neg (by omega)]
        exact hH k l hl i x hx
      · show (if r.Epoch + 1 = r.Epoch + 1 then _ else _ : List Entry) = logAt r s.Node
        rw [if_pos rfl]
      · have := hep k l hl x hx
        show x.Epoch ≤ r.Epoch + 1
        omega
    · rw [if_neg h9] at hok; cases hok
  rw [if_neg h8] at hok; cases hok
theorem rstep_no {r : Repl} {s : ReplStep} (h : (rstep r s).2 = false) : (rstep r s).1 = r := by
  unfold rstep at *
  split
  · rename_i h1; rw [if_pos h1] at h; cases h
  · rfl
theorem RInv.step {r : Repl} (h : RInv r) (s : ReplStep) : RInv (rstep r s).1 ∧ r.Certain <+: (rstep r s).1.Certain := by
  unfold rstep
  split
  · rename_i hok
    obtain ⟨h1, h2⟩ := h.do_ s hok
    refine ⟨h1.inv, ?_⟩
    have := (rcert_eq h1.rw).2
    rw [h2] at this
    exact this
  · exact ⟨h, List.prefix_refl _⟩
/-- a new state -/
def newRe (n : Nat) : Repl := ⟨List.replicate n [], List.replicate n false, 0, 1, (List.range n).map (fun k : Nat => (k : Int)), []⟩
theorem newRe_inv {n : Nat} (h1 : 1 ≤ n) (h5 : n ≤ 5) : RInv (newRe n) := by
  have hl : ∀ (k : Nat) (l : List Entry), (newRe n).Logs[k]? = some l → l = [] := fun k l hl => by
    have := List.mem_of_getElem? hl
    exact (List.mem_replicate.1 this).2
  have hla : ∀ k, logAt (newRe n) k = [] := fun k => by
    unfold logAt
    rw [List.getD_eq_getElem?_getD]
    cases h : (newRe n).Logs[k.toNat]? with
    | none => rfl
    | some l => rw [hl _ _ h]; rfl
  refine ⟨⟨by simpa [newRe] using h1, by simpa [newRe] using h5, by simp [newRe], by simp [newRe]; omega, by simp [newRe], ?_, fun k hk => ?_, ?_, (fun k l h => by rw [hl k l h]; exact LogOk.nil), fun k hk => List.nil_prefix⟩, ⟨fun _ => [], (fun k l h i x hx => by rw [hl k l h] at hx; simp at hx), by rw [hla]⟩, (fun k l h x hx => by rw [hl k l h] at hx; cases hx), ?_⟩
  · show ((List.range n).map (fun k : Nat => (k : Int))).Pairwise (· < ·)
    rw [List.pairwise_map]
    exact List.pairwise_lt_range.imp (by intro a b h; omega)
  · obtain ⟨j, hj, rfl⟩ := List.mem_map.1 hk
    have := List.mem_range.1 hj
    simp [newRe]; omega
  · exact List.mem_map.2 ⟨0, List.mem_range.2 (by omega), rfl⟩
  · show certain (newRe n) = 0
    have := (certF_le (newRe n) (newRe n).InSync (logAt (newRe n) (newRe n).Leader).length).1
    rw [hla] at this
    unfold certain
    rw [hla]
    simpa using this
def playR (r : Repl) (l : List ReplStep) : Repl × List Bool := l.foldl (fun p s => ((rstep p.1 s).1, p.2 ++ [(rstep p.1 s).2])) (r, [])
theorem playR_nil (r : Repl) : playR r [] = (r, []) := rfl
theorem playR_snoc (r : Repl) (l : List ReplStep) (s : ReplStep) : playR r (l ++ [s]) = ((rstep (playR r l).1 s).1, (playR r l).2 ++ [(rstep (playR r l).1 s).2]) := by
  unfold playR; rw [List.foldl_append]; rfl
theorem playR_inv (r : Repl) (h : RInv r) : ∀ n (l : List ReplStep), l.length = n → RInv (playR r l).1 ∧ (playR r l).2.length = n
  | 0, l, hl => by
    rw [List.length_eq_zero_iff.1 hl]
    exact ⟨h, rfl⟩
  | n + 1, l, hl => by
    rcases List.eq_nil_or_concat l with rfl | ⟨l', s, rfl⟩
    · cases hl
    · rw [List.concat_eq_append] at hl ⊢
      have ih := playR_inv r h n l' (by simpa using hl)
      rw [playR_snoc]
      exact ⟨(ih.1.step s).1, by simp [ih.2]⟩
/-- what was certain still is -/
theorem playR_pre (r : Repl) (h : RInv r) : ∀ m l : List ReplStep, (playR r l).1.Certain <+: (playR r (l ++ m)).1.Certain
  | [], l => by simp
  | s :: m, l => by
    have h1 := playR_pre r h m (l ++ [s])
    rw [List.append_assoc, List.singleton_append] at h1
    refine List.IsPrefix.trans ?_ h1
    rw [playR_snoc]
    exact ((playR_inv r h _ l rfl).1.step s).2
/-- logs have one history -/
theorem RInv.match_ {r : Repl} (h : RInv r) {i k : Nat} {a b : List Entry} (ha : r.Logs[i]? = some a) (hb : r.Logs[k]? = some b) :
    (∀ (j : Nat) (x y : Entry), a[j]? = some x → b[j]? = some y → x.Epoch = y.Epoch → j < part a b) ∧
    ∀ s t, s ∈ starts a → t ∈ starts b → s.Epoch = t.Epoch → s.At = t.At := by
  obtain ⟨H, hH, _⟩ := h.hist
  have h1 := hH i a ha
  have h2 := hH k b hb
  have g1 := (h.rw.logs i a ha).ris
  have g2 := (h.rw.logs k b hb).ris
  refine ⟨fun j x y hx hy he => ?_, fun s t hs ht he => ?_⟩
  · have e1 := (List.getElem?_eq_some_iff.1 hx).1
    have e2 := (List.getElem?_eq_some_iff.1 hy).1
    have := part_ge a b (j + 1) (by omega) (by omega) (hist_same h1 h2 hx hy he)
    omega
  · obtain ⟨p, q1, q2, rfl⟩ := startsTo_mem.1 hs
    obtain ⟨p', q3, q4, rfl⟩ := startsTo_mem.1 ht
    have x1 := List.getElem?_eq_getElem q1
    have x2 := List.getElem?_eq_getElem q3
    have he' : epAt a p = epAt b p' := he
    rw [epAt_of x1, epAt_of x2] at he'
    have := hist_start h1 h2 g1 g2 x1 x2 he' q2 q4
    show (p : Int) = p'
    omega
end Pl
end Go.Proofs.Ytihendiakgfpcaa

/-
  Plain functions: entries that are good; rising numbers. No program in sight. No conditions.
-/
namespace Go.Proofs.Ytihendiakgfpcaa
namespace Pl
def entsP (l : List Entry) (k : Nat) : Bool := entOk (l.getD k zEn) && (decide (k = 0) || decide (epAt l (k - 1) ≤ epAt l k))
def entsOk (l : List Entry) : Bool := allB l.length (entsP l) && decide (l.length ≤ 40)
theorem entsP_of {l : List Entry} {k : Nat} {x : Entry} (h : l[k]? = some x) : entsP l k = (entOk x && (decide (k = 0) || decide (epAt l (k - 1) ≤ x.Epoch))) := by
  unfold entsP
  rw [epAt_of h, List.getD_eq_getElem?_getD, h]; rfl
theorem entsOk_iff {l : List Entry} : entsOk l = true ↔ LogOk l := by
  unfold entsOk
  rw [Bool.and_eq_true, decide_eq_true_eq, allB_iff]
  constructor
  · rintro ⟨h, h40⟩
    have h1 : ∀ (k : Nat) (x : Entry), l[k]? = some x → entOk x = true ∧ (0 < k → epAt l (k - 1) ≤ x.Epoch) := fun k x hx => by
      have h2 := h k (List.getElem?_eq_some_iff.1 hx).1
      rw [entsP_of hx, Bool.and_eq_true, Bool.or_eq_true, decide_eq_true_eq, decide_eq_true_eq] at h2
      exact ⟨h2.1, fun h0 => h2.2.resolve_left (by omega)⟩
    refine ⟨fun i j x y hx hy hij => ?_, h40, fun i x hx => (h1 i x hx).1⟩
    obtain ⟨d, rfl⟩ : ∃ d, j = i + d := ⟨j - i, by omega⟩
    clear hij
    induction d generalizing y with
    | zero => rw [Nat.add_zero, hx] at hy; injection hy with hy; rw [hy]; exact Int.le_refl _
    | succ d ih =>
      have hj := (List.getElem?_eq_some_iff.1 hy).1
      have hz := List.getElem?_eq_getElem (show i + d < l.length by omega)
      have h3 := ih _ hz
      have h4 := (h1 _ y hy).2 (by omega)
      rw [show i + (d + 1) - 1 = i + d by omega, epAt_of hz] at h4
      omega
  · intro h
    refine ⟨fun k hk => ?_, h.len⟩
    have hx := List.getElem?_eq_getElem hk
    rw [entsP_of hx, Bool.and_eq_true, Bool.or_eq_true, decide_eq_true_eq, decide_eq_true_eq]
    refine ⟨h.ok k _ hx, ?_⟩
    rcases Nat.eq_zero_or_pos k with h0 | h0
    · exact .inl h0
    · have hz := List.getElem?_eq_getElem (show k - 1 < l.length by omega)
      rw [epAt_of hz]
      exact .inr (h.ris _ _ _ _ hz hx (by omega))
/-- rising numbers from 0 on, all below n -/
def risP (n : Int) (l : List Int) (k : Nat) : Bool := isIn (l.getD k 0) 0 (n - 1) && (decide (k = 0) || decide (l.getD (k - 1) 0 < l.getD k 0))
def risI (n : Int) (l : List Int) : Bool := allB l.length (risP n l)
theorem risP_of {n : Int} {l : List Int} {k : Nat} {x : Int} (h : l[k]? = some x) : risP n l k = (isIn x 0 (n - 1) && (decide (k = 0) || decide (l.getD (k - 1) 0 < x))) := by
  have e : l.getD k 0 = x := by rw [List.getD_eq_getElem?_getD, h]; rfl
  unfold risP
  rw [e]
theorem risI_iff {n : Nat} {l : List Int} : risI n l = true ↔ l.Pairwise (· < ·) ∧ ∀ k, k ∈ l → 0 ≤ k ∧ k < n := by
  unfold risI
  rw [allB_iff]
  constructor
  · intro h
    have h1 : ∀ (k : Nat) (x : Int), l[k]? = some x → (0 ≤ x ∧ x < n) ∧ (0 < k → l.getD (k - 1) 0 < x) := fun k x hx => by
      have h2 := h k (List.getElem?_eq_some_iff.1 hx).1
      rw [risP_of hx, Bool.and_eq_true, Bool.or_eq_true, decide_eq_true_eq, decide_eq_true_eq, isIn_iff] at h2
      exact ⟨by omega, fun h0 => h2.2.resolve_left (by omega)⟩
    refine ⟨?_, fun k hk => by
      obtain ⟨i, hi⟩ := List.mem_iff_getElem?.1 hk
      exact (h1 i k hi).1⟩
    rw [List.pairwise_iff_getElem]
    intro i j hi hj hij
    obtain ⟨d, rfl⟩ : ∃ d, j = i + 1 + d := ⟨j - (i + 1), by omega⟩
    clear hij
    induction d with
    | zero =>
      have h4 := (h1 _ _ (List.getElem?_eq_getElem hj)).2 (by omega)
      have e : l.getD (i + 1 + 0 - 1) 0 = l[i] := by rw [List.getD_eq_getElem?_getD, show i + 1 + 0 - 1 = i by omega, List.getElem?_eq_getElem hi]; rfl
      rw [e] at h4
      exact h4
    | succ d ih =>
      have h3 := ih (by omega)
      have h4 := (h1 _ _ (List.getElem?_eq_getElem hj)).2 (by omega)
      have e : l.getD (i + 1 + (d + 1) - 1) 0 = l[i + 1 + d]'(by omega) := by rw [List.getD_eq_getElem?_getD, show i + 1 + (d + 1) - 1 = i + 1 + d by omega, List.getElem?_eq_getElem (by omega)]; rfl
      rw [e] at h4
      omega
  · rintro ⟨h, h2⟩ k hk
    have hx := List.getElem?_eq_getElem hk
    rw [risP_of hx, Bool.and_eq_true, Bool.or_eq_true, decide_eq_true_eq, decide_eq_true_eq, isIn_iff]
    have h3 := h2 _ (List.getElem_mem hk)
    refine ⟨by omega, ?_⟩
    rcases Nat.eq_zero_or_pos k with h0 | h0
    · exact .inl h0
    · right
      have e : l.getD (k - 1) 0 = l[k - 1]'(by omega) := by rw [List.getD_eq_getElem?_getD, List.getElem?_eq_getElem (by omega)]; rfl
      rw [e]
      exact List.pairwise_iff_getElem.1 h (k - 1) k (by omega) hk (by omega)
end Pl
end Go.Proofs.Ytihendiakgfpcaa

/-
  Plain functions: replication: what a good state is. No program in sight. No conditions.
-/
namespace Go.Proofs.Ytihendiakgfpcaa
namespace Pl
def certP (r : Repl) (k : Int) : Bool := decide (part (logAt r k) r.Certain = r.Certain.length)
def replA (r : Repl) : Bool := isIn r.Logs.length 1 5 && decide (r.Down.length = r.Logs.length) && isIn r.Leader 0 ((r.Logs.length : Int) - 1) && isIn r.Epoch 1 1000
def replOk (r : Repl) : Bool := replA r && risI r.Logs.length r.InSync && hasI r.InSync r.Leader && r.Logs.all entsOk && r.InSync.all (certP r)
theorem replA_iff {r : Repl} : replA r = true ↔ (1 ≤ r.Logs.length ∧ r.Logs.length ≤ 5) ∧ r.Down.length = r.Logs.length ∧ (0 ≤ r.Leader ∧ r.Leader < r.Logs.length) ∧ 1 ≤ r.Epoch ∧ r.Epoch ≤ 1000 := by
  unfold replA
  rw [Bool.and_eq_true, Bool.and_eq_true, Bool.and_eq_true, isIn_iff, isIn_iff, isIn_iff, decide_eq_true_eq]
  omega
theorem replOk_iff {r : Repl} : replOk r = true ↔ RW r := by
  unfold replOk
  rw [Bool.and_eq_true, Bool.and_eq_true, Bool.and_eq_true, Bool.and_eq_true, replA_iff, risI_iff, hasI_iff, List.all_eq_true, List.all_eq_true]
  constructor
  · rintro ⟨⟨⟨⟨h1, h2⟩, h3⟩, h4⟩, h5⟩
    exact ⟨h1.1.1, h1.1.2, h1.2.1, h1.2.2.1, h1.2.2.2, h2.1, h2.2, h3, fun k l hl => entsOk_iff.1 (h4 l (List.mem_of_getElem? hl)), fun k hk => part_full.1 (of_decide_eq_true (h5 k hk))⟩
  · intro h
    refine ⟨⟨⟨⟨⟨⟨h.n1, h.n5⟩, h.down, h.lead, h.epoch⟩, h.sync, h.syncIn⟩, h.leadIn⟩, fun l hl => ?_⟩, fun k hk => decide_eq_true (part_full.2 (h.cert k hk))⟩
    obtain ⟨i, hi⟩ := List.mem_iff_getElem?.1 hl
    exact entsOk_iff.2 (h.logs i l hi)
theorem RW.sync5 {r : Repl} (h : RW r) : r.InSync.length ≤ 5 := by
  have key : ∀ (l : List Int) (a b : Int), l.Pairwise (· < ·) → (∀ x, x ∈ l → a ≤ x ∧ x < b) → a ≤ b → (l.length : Int) ≤ b - a := by
    intro l
    induction l with
    | nil => intro a b _ _ h; simp; omega
    | cons x t ih =>
      intro a b hp hx hab
      have h1 := hx x (by simp)
      have h2 := List.pairwise_cons.1 hp
      have h3 := ih (x + 1) b h2.2 (fun y hy => by have := h2.1 y hy; have := hx y (by simp [hy]); omega) (by omega)
      rw [List.length_cons]
      push_cast
      omega
  have := key r.InSync 0 r.Logs.length h.sync h.syncIn (by omega)
  have := h.n5
  omega
theorem RW.ents {r : Repl} (h : RW r) : entsOk r.Certain = true := entsOk_iff.2 ((h.ok h.lead.1 h.lead.2).pre (h.cert _ h.leadIn))
end Pl
end Go.Proofs.Ytihendiakgfpcaa

/-
  From the form's own reading of an argument to the readings of Mm: for numbers, strings, structs and slices of whatever depth. No program in sight. No conditions.
-/
namespace Go.Proofs.Ytihendiakgfpcaa
open Go.ChangeShapes Go.WideShapes Go.RowKit Go.Deep
namespace Mm

def Opens {α : Type} (P : Program) (t : TypeId) (E : Rep α) : Prop :=
  P.cellsOf t = E.size ∧ ∀ (H : Type) (enc : TypeId × Value → H) (w : World) (base : Nat) (spare : Nat → Bool) (held : Bool) (fuel : Nat) (cs : List Value) (x : DataW H × List MemPlace),
    DataW.trod enc P w base spare held fuel t cs = some x → ∃ y, E.at_ w w.heap.size y cs

variable {P : Program} {t e : TypeId}

theorem opens_int (ht : P.underlying t = some (.int .i64)) (hc : P.cellsOf t = 1) : Opens P t int := ⟨hc, fun H enc w base spare held fuel cs x h => by
  obtain ⟨n, rfl, _, hw⟩ := DataW.trod_int ht h
  refine ⟨n, rfl, ?_⟩
  simp [Lit.wf, IntKind.min, IntKind.max, IntKind.signed, IntKind.bits] at hw
  unfold I64
  omega⟩
theorem opens_bool (ht : P.underlying t = some .bool) (hc : P.cellsOf t = 1) : Opens P t bool := ⟨hc, fun H enc w base spare held fuel cs x h => by
  obtain ⟨n, rfl, _⟩ := DataW.trod_bool ht h
  exact ⟨n, rfl, trivial⟩⟩
theorem opens_str (ht : P.underlying t = some .string) (hc : P.cellsOf t = 1) : Opens P t str := ⟨hc, fun H enc w base spare held fuel cs x h => by
  obtain ⟨n, rfl, _, hw⟩ := DataW.trod_string ht h
  exact ⟨n, rfl, hw⟩⟩
theorem opens_map {α β : Type} {E : Rep α} {F : Rep β} (h : Opens P t E) (hs : E.size = F.size) (hc : ∀ w B x cs, E.at_ w B x cs → ∃ y, F.at_ w B y cs) : Opens P t F :=
  ⟨h.1.trans hs, fun H enc w base spare held fuel cs x hx => by
    obtain ⟨y, hy⟩ := h.2 H enc w base spare held fuel cs x hx
    exact hc _ _ _ _ hy⟩
theorem opens_slice {α : Type} {E : Rep α} (ht : P.underlying t = some (.slice e)) (hc : P.cellsOf t = 1) (h0 : 0 < E.size) (hE : Opens P e E) : Opens P t (slice E e) := ⟨hc, fun H enc w base spare held fuel cs x h => by
  rcases open_slice ht h with ⟨rfl, _⟩ | ⟨a, len, cap, m, n, D, Pl, rfl, hb, hl, hm, hmm, _, hi⟩
  · exact ⟨[], none, 0, 0, rfl, SlAt.nil (Nat.zero_le _) (fun _ => rfl)⟩
  · have hle : len ≤ m := by rw [hmm]; split <;> omega
    have hex : ∀ i : Fin len, ∃ y : α, ∃ cs', E.at_ w w.heap.size y cs' ∧ cs'.length = E.size ∧ ∀ j, j < E.size → w.cell? (a.add (i.1 * E.size + j)) = cs'[j]? := by
      intro i
      obtain ⟨cs', h1, h2⟩ := hi i.1 (by have := i.2; omega)
      obtain ⟨y, hy⟩ := hE.2 H enc w base spare held n cs' _ h2
      obtain ⟨_, hln, hcell⟩ := World.cells?_some h1
      rw [hE.1] at hln hcell
      exact ⟨y, cs', hy, hln, fun j hj => by rw [← Go.Deep.add_add]; exact hcell j hj⟩
    refine ⟨List.ofFn fun i : Fin len => Classical.choose (hex i), some a, len, cap, rfl, by simp, hl, hm, (fun h => by cases h), fun i y hy => ?_⟩
    have hil : i < len := by
      have := (List.getElem?_eq_some_iff.1 hy).1
      simpa using this
    obtain ⟨cs', h1, h2, h3⟩ := Classical.choose_spec (hex ⟨i, hil⟩)
    have hey : Classical.choose (hex ⟨i, hil⟩) = y := by
      rw [List.getElem?_ofFn] at hy
      simpa [hil] using hy
    rw [hey] at h1
    obtain ⟨cs0, _, h20, h30⟩ := Classical.choose_spec (hex ⟨0, by omega⟩)
    have hc0 := h30 0 h0
    rw [List.getElem?_eq_getElem (by omega)] at hc0
    obtain ⟨b, off, spot⟩ := a
    have hsp : spot = none := by
      have := World.cell?_spot hc0
      simpa [Addr.add] using this
    subst hsp
    have hadd : ∀ k : Nat, (⟨b, off, none⟩ : Addr).add k = ⟨b, off + k, none⟩ := fun k => by unfold Addr.add; split <;> simp_all
    refine ⟨b, off, cs', rfl, ?_, h1, fun j u hu => ?_⟩
    · have := World.block_lt_of_cell? w _ hc0
      rw [hadd] at this
      exact this
    · have hj : j < cs'.length := (List.getElem?_eq_some_iff.1 hu).1
      have := h3 j (by omega)
      rw [hu, hadd] at this
      rw [Nat.add_assoc]
      exact this⟩

def OpensF {α : Type} (P : Program) (l : List Field) (off : Nat) (E : Rep α) : Prop :=
  ∀ (H : Type) (enc : TypeId × Value → H) (w : World) (base : Nat) (spare : Nat → Bool) (held : Bool) (n : Nat) (cs : List Value), cs.length = off + E.size →
    (∀ (i : Nat) (f : Field), l[i]? = some f → ∃ x, DataW.trod enc P w base spare held n f.type ((cs.drop f.offset).take (P.cellsOf f.type)) = some x) → ∃ y, E.at_ w w.heap.size y (cs.drop off)
theorem opensF_one {α : Type} {E : Rep α} {f : Field} {off : Nat} (ho : f.offset = off) (h : Opens P f.type E) : OpensF P [f] off E := fun H enc w base spare held n cs hl hf => by
  obtain ⟨x, hx⟩ := hf 0 f rfl
  obtain ⟨y, hy⟩ := h.2 H enc w base spare held n _ x hx
  rw [ho, h.1, List.take_of_length_le (by rw [List.length_drop]; omega)] at hy
  exact ⟨y, hy⟩
theorem opensF_cons {α β : Type} {E : Rep α} {F : Rep β} {f : Field} {l : List Field} {off : Nat} (ho : f.offset = off) (h : Opens P f.type E) (hr : OpensF P l (off + E.size) F) : OpensF P (f :: l) off (pair E F) :=
  fun H enc w base spare held n cs hl hf => by
    obtain ⟨x, hx⟩ := hf 0 f rfl
    obtain ⟨y, hy⟩ := h.2 H enc w base spare held n _ x hx
    rw [ho, h.1] at hy
    have hl' : cs.length = off + E.size + F.size := by rw [hl]; show off + (E.size + F.size) = _; omega
    obtain ⟨z, hz⟩ := hr H enc w base spare held n cs hl' (fun i g hg => hf (i + 1) g (by simpa using hg))
    refine ⟨(y, z), _, _, ?_, hy, hz⟩
    rw [← List.drop_drop, List.take_append_drop]
theorem opens_struct {α : Type} {E : Rep α} {fs : Array Field} (ht : P.underlying t = some (.struct fs)) (hc : P.cellsOf t = E.size) (h : OpensF P fs.toList 0 E) : Opens P t E := ⟨hc, fun H enc w base spare held fuel cs x hx => by
  obtain ⟨ys, n, _, _, hlen, hyl, hf⟩ := DataW.trod_struct ht hx
  have := h H enc w base spare held n cs (by rw [hlen, hc]; omega) (fun i f hi => by
    have hi' : i < fs.size := by
      have := (List.getElem?_eq_some_iff.1 hi).1
      simpa using this
    have h2 := hf i f (by rw [← Array.getElem?_toList]; exact hi)
    rw [List.getElem?_eq_getElem (by omega)] at h2
    exact ⟨_, h2⟩)
  simpa using this⟩

/-- a parameter that is a slice -/
theorem open_sl {H : Type} {enc : TypeId × Value → H} {w : World} {base : Nat} {spare : Nat → Bool} {held : Bool} {r : Reach} {b0 : Nat} {v : Value} {d : DataW H} {p : List MemPlace} {α : Type} {E : Rep α}
    (ho : Opens P t (slice E e)) (ht : P.underlying t = some (.slice e)) (hv : Value.okWide P w r b0 t v) (h : DataW.Trod enc P w base spare held t v d p) :
    ∃ A n c xs, v = .slice A n c ∧ SlAt E w w.heap.size xs A n c := by
  obtain ⟨A, n, c, rfl⟩ := okWide_slice ht hv
  obtain ⟨fuel, hf⟩ := h
  obtain ⟨xs, A', n', c', he, hx⟩ := ho.2 H enc w base spare held fuel _ _ hf
  simp [Value.cells] at he
  obtain ⟨rfl, rfl, rfl⟩ := he
  exact ⟨A, n, c, xs, rfl, hx⟩
/-- a parameter that is a struct -/
theorem open_st {H : Type} {enc : TypeId × Value → H} {w : World} {base : Nat} {spare : Nat → Bool} {held : Bool} {r : Reach} {b0 : Nat} {v : Value} {d : DataW H} {p : List MemPlace} {α : Type} {E : Rep α} {fs : Array Field}
    (ho : Opens P t E) (ht : P.underlying t = some (.struct fs)) (hv : Value.okWide P w r b0 t v) (h : DataW.Trod enc P w base spare held t v d p) :
    ∃ (cs : List Value) (x : α), v = .agg cs.toArray ∧ E.at_ w w.heap.size x cs := by
  obtain ⟨cs, rfl, _⟩ := okWide_struct ht hv
  obtain ⟨fuel, hf⟩ := h
  obtain ⟨x, hx⟩ := ho.2 H enc w base spare held fuel _ _ hf
  exact ⟨cs.toList, x, by simp, hx⟩
end Mm
end Go.Proofs.Ytihendiakgfpcaa

/-
  Contracts of the functions on logs of entries that only read (chapter 7). No conditions beyond those named.
-/
namespace Go.Proofs.Ytihendiakgfpcaa
open Go.RowKit
attribute [local go_sem] und_cell
set_option maxRecDepth 100000 in
theorem lastEpoch_c (l : List Entry) (A : Option Addr) (n c : Nat) (w : World) (B : Nat) (hl : Mm.SlAt rEntry w B l A n c) :
    Calls Try.prog 86 #[.slice A n c] w fun e w' => e = .returned (.int .i64 (Pl.lastEp l)) ∧ w = w' := by
  have hn : n ≤ 9223372036854775807 := by have := hl.2.1; have := hl.2.2.1; unfold maxLen at this; omega
  have hlen := hl.1
  by_cases h0 : n = 0
  · subst h0
    have HF : Hid (Pl.lastEp l = 0) := if_pos hlen
    clear hlen hl
    go_enter Try.func86, Try.ntmps86
    go_wp2
    go_ret
    exact ⟨ret_int (by rw [HF.out]), rfl⟩
  · obtain ⟨x, b, off, hx, rfl, hb, i1, i2, e0, e1⟩ := rEntry_get hl (show n - 1 < n by omega)
    have HF : Hid (Pl.lastEp l = x.Epoch) := by
      show _ = _
      unfold Pl.lastEp
      rw [if_neg (by omega), hlen, Pl.epAt_of hx]
    have f1 : ((n : Int) == 0) = false := by simp; omega
    have f2 : (0 : Int) ≤ (n : Int) - 1 := by omega
    have f3 : ((n : Int) - 1).toNat = n - 1 := by omega
    have f4 : (n : Int) - 1 < n := by omega
    have f5 : 1 ≤ n := by omega
    clear hlen hl hx h0
    go_enter Try.func86, Try.ntmps86
    go_wp2
    go_ret
    exact ⟨ret_int (by rw [HF.out]), rfl⟩
set_option maxRecDepth 100000 in
theorem l7Last_c (l : List Entry) (A : Option Addr) (n c : Nat) (w : World) (B : Nat) (hl : Mm.SlAt rEntry w B l A n c) :
    Calls Try.prog 118 #[.slice A n c] w fun e w' => e = .returned (.int .i64 (Pl.lastEp l)) ∧ w = w' := by
  have hn : n ≤ 9223372036854775807 := by have := hl.2.1; have := hl.2.2.1; unfold maxLen at this; omega
  have hlen := hl.1
  by_cases h0 : n = 0
  · subst h0
    have HF : Hid (Pl.lastEp l = 0) := if_pos hlen
    clear hlen hl
    go_enter Try.func118, Try.ntmps118
    go_wp2
    go_ret
    exact ⟨ret_int (by rw [HF.out]), rfl⟩
  · obtain ⟨x, b, off, hx, rfl, hb, i1, i2, e0, e1⟩ := rEntry_get hl (show n - 1 < n by omega)
    have HF : Hid (Pl.lastEp l = x.Epoch) := by
      show _ = _
      unfold Pl.lastEp
      rw [if_neg (by omega), hlen, Pl.epAt_of hx]
    have f1 : ((n : Int) == 0) = false := by simp; omega
    have f2 : (0 : Int) ≤ (n : Int) - 1 := by omega
    have f3 : ((n : Int) - 1).toNat = n - 1 := by omega
    have f4 : (n : Int) - 1 < n := by omega
    have f5 : 1 ≤ n := by omega
    clear hlen hl hx h0
    go_enter Try.func118, Try.ntmps118
    go_wp2
    go_ret
    exact ⟨ret_int (by rw [HF.out]), rfl⟩
theorem Pl.eqE_def (x y : Entry) : Pl.eqE x y = (decide (x.Epoch = y.Epoch) && (x.Text.toList == y.Text.toList)) := rfl
set_option maxRecDepth 100000 in
set_option maxHeartbeats 1000000 in
theorem endOfEpoch_c (l : List Entry) (ep : Int) (A : Option Addr) (n c : Nat) (w : World) (B : Nat) (hl : Mm.SlAt rEntry w B l A n c) :
    Calls Try.prog 130 #[.slice A n c, .int .i64 ep] w fun e w' => e = .returned (.int .i64 (Pl.fend l ep : Nat)) ∧ w = w' := by
  have hn : n ≤ 9223372036854775807 := by have := hl.2.1; have := hl.2.2.1; unfold maxLen at this; omega
  have HL := Lib.hid hl
  have HLN : Hid (l.length = n) := hl.1
  clear hl
  go_enter Try.func130, Try.ntmps130
  go_wp2
  go_loop [5] (fun i => ∃ k : Nat, k ≤ n ∧ i = .int .i64 k ∧ Hid (∀ (j : Nat) x, j < k → l[j]? = some x → x.Epoch ≤ ep)) (fun i => n - (intOf i).toNat)
  case atStart => exact ⟨0, Nat.zero_le _, rfl, Lib.hid (fun j x hj => absurd hj (Nat.not_lt_zero _))⟩
  case round =>
    obtain ⟨k, hk, rfl, HA⟩ := hrel
    by_cases hlt : k < n
    · obtain ⟨x, b, off, hx, rfl, hb, i1, i2, e0, e1⟩ := rEntry_get HL.out hlt
      by_cases hle : x.Epoch ≤ ep
      · have HN : Hid (∀ (j : Nat) x, j < k + 1 → l[j]? = some x → x.Epoch ≤ ep) := Lib.hid (fun j y hj hy => by
          by_cases e : j = k
          · subst e; rw [hx] at hy; injection hy with hy; rw [← hy]; exact hle
          · exact HA.out j y (by omega) hy)
        clear hx
        go_wp2
        go_round
        case rel => exact ⟨k + 1, by omega, by go_num, HN⟩
        case measure => simp [intOf]; omega
      · have HF : Hid (Pl.fend l ep = k) := Pl.fend_of (by rw [HLN.out]; omega) HA.out (fun y hy => by rw [hx] at hy; injection hy with hy; rw [← hy]; omega)
        clear hx
        go_wp2
        go_ret
        exact ⟨ret_int (by rw [HF.out]), rfl⟩
    · have HF : Hid (Pl.fend l ep = k) := Pl.fend_of (by rw [HLN.out]; omega) HA.out (fun y hy => by have := (List.getElem?_eq_some_iff.1 hy).1; rw [HLN.out] at this; omega)
      go_wp2
      go_ret
      exact ⟨ret_int (by rw [HF.out]), rfl⟩
set_option maxRecDepth 100000 in
set_option maxHeartbeats 1000000 in
theorem l7End_c (l : List Entry) (ep : Int) (A : Option Addr) (n c : Nat) (w : World) (B : Nat) (hl : Mm.SlAt rEntry w B l A n c) (hB : B ≤ w.heap.size) (hr : Pl.Ris l) :
    Calls Try.prog 132 #[.slice A n c, .int .i64 ep] w fun e w' => e = .returned (.int .i64 (Pl.fend l ep : Nat)) ∧ Below w.heap.size w w' := by
  have hn : n ≤ 9223372036854775807 := by have := hl.2.1; have := hl.2.2.1; unfold maxLen at this; omega
  have HL := Lib.hid hl
  have HLN : Hid (l.length = n) := hl.1
  have HR := Lib.hid hr
  clear hl hr
  go_enter Try.func132, Try.ntmps132
  go_wp2
  go_loopg [5, 10] n (fun g q i wr => ∃ (k m : Nat), n - k ≤ g ∧ k ≤ n ∧ m ≤ k ∧ q = .int .i64 m ∧ i = .int .i64 k ∧ Hid (m = (l.take k).countP (fun x => decide (x.Epoch ≤ ep))) ∧ Hid (Below w.heap.size w wr))
  case atStart => exact ⟨0, 0, Nat.le_refl _, Nat.zero_le _, Nat.le_refl _, rfl, rfl, rfl, Below.refl _ _⟩
  case round =>
    obtain ⟨k, m, hgk, hk, hmk, rfl, rfl, HM, HB⟩ := hrel
    obtain ⟨W, rfl⟩ : ∃ W : World, W = wr := ⟨_, rfl⟩
    by_cases hlt : k < n
    · obtain ⟨x, b, off, hx, rfl, hb, i1, i2, e0, e1⟩ := rEntry_get (HL.out.keep (w' := W) fun b hb => HB.out.block b (by omega)) hlt
      have hbw : b < W.heap.size := by have := HB.out.size; omega
      have HN : Hid ((l.take (k + 1)).countP (fun x => decide (x.Epoch ≤ ep)) = m + (if x.Epoch ≤ ep then 1 else 0)) := by
        show _ = _
        rw [Mm.take_succ_some hx, List.countP_append, ← HM.out]
        congr 1
        by_cases h : x.Epoch ≤ ep
        · rw [if_pos h]; simp [h]
        · rw [if_neg h]; simp [h]
      have HB2 := Lib.hid (below_new HB.out (.cells #[.int .i64 x.Epoch, .string x.Text] 111))
      clear hx
      by_cases hle : x.Epoch ≤ ep
      · rw [if_pos hle] at HN
        go_wp2
        go_roundg (n - (k + 1))
        case measure => omega
        case rel => exact ⟨k + 1, m + 1, Nat.le_refl _, by omega, by omega, by go_num, by go_num, HN.out.symm, HB2.out⟩
      · rw [if_neg hle] at HN
        go_wp2
        go_roundg (n - (k + 1))
        case measure => omega
        case rel => exact ⟨k + 1, m, Nat.le_refl _, by omega, by omega, rfl, by go_num, HN.out.symm, HB2.out⟩
    · have HF : Hid (Pl.fend l ep = m) := by
        show _ = _
        rw [← Pl.fend_count HR.out, HM.out, List.take_of_length_le (by rw [HLN.out]; omega)]
      go_wp2
      go_ret
      exact ⟨ret_int (by rw [HF.out]), HB.out⟩
theorem Try.stoodEntry : Try.prog.stoodInHeld 111 = false := by kernel_rfl
theorem run_eqEntry (x y : Entry) (W : World) : (binOp .eql 111 (.agg #[.int .i64 x.Epoch, .string x.Text]) (.agg #[.int .i64 y.Epoch, .string y.Text])).run Try.prog W = .ok (.bool (Pl.eqE x y)) W := by
  have ht : Try.prog.underlying 111 = some (.struct (Try.prog.fieldsOf 111)) := by simp [Program.fieldsOf, Try.underlying111]
  rw [run_eql_struct, run_equalIn_agg _ _ _ _ _ ht Try.stoodEntry]
  unfold Pl.eqE
  cases h1 : decide (x.Epoch = y.Epoch) <;> cases h2 : (x.Text.toList == y.Text.toList) <;>
    simp [Program.fieldsOf, Try.underlying111, Op.eqFields, go_sem] <;> simp_all

set_option maxRecDepth 100000 in
set_option maxHeartbeats 1000000 in
theorem partAt_c (l m : List Entry) (A : Option Addr) (n c : Nat) (A' : Option Addr) (n' c' : Nat) (w : World) (B : Nat) (hl : Mm.SlAt rEntry w B l A n c) (hm : Mm.SlAt rEntry w B m A' n' c') (hB : B ≤ w.heap.size) :
    Calls Try.prog 53 #[.slice A n c, .slice A' n' c'] w fun e w' => e = .returned (.int .i64 (Pl.part l m : Nat)) ∧ Below w.heap.size w w' := by
  have hn : n ≤ 9223372036854775807 := by have := hl.2.1; have := hl.2.2.1; unfold maxLen at this; omega
  have hn' : n' ≤ 9223372036854775807 := by have := hm.2.1; have := hm.2.2.1; unfold maxLen at this; omega
  have HL := Lib.hid hl
  have HM := Lib.hid hm
  have HLN : Hid (l.length = n) := hl.1
  have HMN : Hid (m.length = n') := hm.1
  clear hl hm
  go_enter Try.func53, Try.ntmps53
  go_wp2
  go_loopg [5] n (fun g i wr => ∃ (k : Nat), n - k ≤ g ∧ k ≤ n ∧ k ≤ n' ∧ i = .int .i64 k ∧ Hid (l.take k = m.take k) ∧ Hid (Below w.heap.size w wr))
  case atStart => exact ⟨0, Nat.le_refl _, Nat.zero_le _, Nat.zero_le _, rfl, rfl, Below.refl _ _⟩
  case round =>
    obtain ⟨k, hgk, hk, hk', rfl, HT, HB⟩ := hrel
    obtain ⟨W, rfl⟩ : ∃ W : World, W = wr := ⟨_, rfl⟩
    by_cases hlt : k < n ∧ k < n'
    · obtain ⟨h1, h2⟩ := hlt
      obtain ⟨x, b, off, hx, rfl, hb, i1, i2, e0, e1⟩ := rEntry_get (HL.out.keep (w' := W) fun b hb => HB.out.block b (by omega)) h1
      obtain ⟨y, b', off', hy, rfl, hb', i1', i2', e0', e1'⟩ := rEntry_get (HM.out.keep (w' := W) fun b hb => HB.out.block b (by omega)) h2
      have f1 : decide ((k : Int) < (if n' < n then (n' : Int) else (n : Int))) = true := by split <;> simp <;> omega
      have f2 : (0 : Int) ≤ (k : Nat) := by omega
      have f3 : ((k : Nat) : Int).toNat = k := by omega
      have HX := Lib.hid hx
      have HY := Lib.hid hy
      clear hx hy
      cases he : Pl.eqE x y with
      | true =>
        obtain rfl := Pl.eqE_iff.1 he
        clear he
        have HN : Hid (l.take (k + 1) = m.take (k + 1)) := Pl.take_next HT.out HX.out HY.out
        go_wp2
        refine wp_region_und (by kernel_rfl) (by kernel_rfl) ?_
        repeat (go_big_quiet_step ((first | fail)))
        refine wpQuiet_nil ?_
        intro X hX
        go_wp2
        all_goals
          go_roundg (n - (k + 1))
          case measure => omega
          case rel => exact ⟨k + 1, Nat.le_refl _, by omega, by omega, by go_num, HN.out, below_step' HB.out hX HB.out.size⟩
      | false =>
        have HF : Hid (Pl.part l m = k) := Pl.part_of l m k (by rw [HLN.out]; omega) (by rw [HMN.out]; omega) HT.out (fun u v hu hv => by
          rw [HX.out] at hu; rw [HY.out] at hv; injection hu with hu; injection hv with hv; rw [← hu, ← hv]; exact he)
        have f5 := fun W => run_eqEntry x y W
        rw [he] at f5
        clear he
        go_wp2
        refine wp_region_und (by kernel_rfl) (by kernel_rfl) ?_
        repeat (go_big_quiet_step ((first | fail)))
        refine wpQuiet_nil ?_
        intro X hX
        go_wp2
        all_goals
          go_ret
          exact ⟨ret_int (by rw [HF.out]), below_step' HB.out hX HB.out.size⟩
    · have f1 : decide ((k : Int) < (if n' < n then (n' : Int) else (n : Int))) = false := by split <;> simp <;> omega
      have HF : Hid (Pl.part l m = k) := Pl.part_of l m k (by rw [HLN.out]; omega) (by rw [HMN.out]; omega) HT.out (fun u v hu hv => by
        have h1 := (List.getElem?_eq_some_iff.1 hu).1
        have h2 := (List.getElem?_eq_some_iff.1 hv).1
        rw [HLN.out] at h1
        rw [HMN.out] at h2
        omega)
      go_wp2
      refine wp_region_und (by kernel_rfl) (by kernel_rfl) ?_
      repeat (go_big_quiet_step ((first | fail)))
      refine wpQuiet_nil ?_
      intro X hX
      go_wp2
      all_goals
        go_ret
        exact ⟨ret_int (by rw [HF.out]), below_step' HB.out hX HB.out.size⟩
set_option maxRecDepth 100000 in
set_option maxHeartbeats 1000000 in
theorem l7Part_c (l m : List Entry) (A : Option Addr) (n c : Nat) (A' : Option Addr) (n' c' : Nat) (w : World) (B : Nat) (hl : Mm.SlAt rEntry w B l A n c) (hm : Mm.SlAt rEntry w B m A' n' c') (hB : B ≤ w.heap.size) :
    Calls Try.prog 109 #[.slice A n c, .slice A' n' c'] w fun e w' => e = .returned (.int .i64 (Pl.part l m : Nat)) ∧ Below w.heap.size w w' := by
  have hn : n ≤ 9223372036854775807 := by have := hl.2.1; have := hl.2.2.1; unfold maxLen at this; omega
  have hn' : n' ≤ 9223372036854775807 := by have := hm.2.1; have := hm.2.2.1; unfold maxLen at this; omega
  have HL := Lib.hid hl
  have HM := Lib.hid hm
  have HLN : Hid (l.length = n) := hl.1
  have HMN : Hid (m.length = n') := hm.1
  clear hl hm
  go_enter Try.func109, Try.ntmps109
  go_wp2
  go_loopg [5] n (fun g i wr => ∃ (k : Nat), n - k ≤ g ∧ k ≤ n ∧ k ≤ n' ∧ i = .int .i64 k ∧ Hid (l.take k = m.take k) ∧ Hid (Below w.heap.size w wr))
  case atStart => exact ⟨0, Nat.le_refl _, Nat.zero_le _, Nat.zero_le _, rfl, rfl, Below.refl _ _⟩
  case round =>
    obtain ⟨k, hgk, hk, hk', rfl, HT, HB⟩ := hrel
    obtain ⟨W, rfl⟩ : ∃ W : World, W = wr := ⟨_, rfl⟩
    by_cases hlt : k < n ∧ k < n'
    · obtain ⟨h1, h2⟩ := hlt
      obtain ⟨x, b, off, hx, rfl, hb, i1, i2, e0, e1⟩ := rEntry_get (HL.out.keep (w' := W) fun b hb => HB.out.block b (by omega)) h1
      obtain ⟨y, b', off', hy, rfl, hb', i1', i2', e0', e1'⟩ := rEntry_get (HM.out.keep (w' := W) fun b hb => HB.out.block b (by omega)) h2
      have f2 : (0 : Int) ≤ (k : Nat) := by omega
      have f3 : ((k : Nat) : Int).toNat = k := by omega
      have HX := Lib.hid hx
      have HY := Lib.hid hy
      have f5 := fun W => run_eqEntry x y W
      clear hx hy
      cases he : Pl.eqE x y with
      | true =>
        obtain rfl := Pl.eqE_iff.1 he
        rw [he] at f5
        clear he
        have HN : Hid (l.take (k + 1) = m.take (k + 1)) := Pl.take_next HT.out HX.out HY.out
        go_wp2
        refine wp_region_und (by kernel_rfl) (by kernel_rfl) ?_
        repeat (go_big_quiet_step ((first | fail)))
        refine wpQuiet_nil ?_
        intro X hX
        go_wp2
        go_roundg (n - (k + 1))
        case measure => omega
        case rel => exact ⟨k + 1, Nat.le_refl _, by omega, by omega, by go_num, HN.out, below_step' HB.out hX HB.out.size⟩
      | false =>
        have HF : Hid (Pl.part l m = k) := Pl.part_of l m k (by rw [HLN.out]; omega) (by rw [HMN.out]; omega) HT.out (fun u v hu hv => by
          rw [HX.out] at hu; rw [HY.out] at hv; injection hu with hu; injection hv with hv; rw [← hu, ← hv]; exact he)
        rw [he] at f5
        clear he
        go_wp2
        refine wp_region_und (by kernel_rfl) (by kernel_rfl) ?_
        repeat (go_big_quiet_step ((first | fail)))
        refine wpQuiet_nil ?_
        intro X hX
        go_wp2
        go_ret
        exact ⟨ret_int (by rw [HF.out]), below_step' HB.out hX HB.out.size⟩
    · have HF : Hid (Pl.part l m = k) := Pl.part_of l m k (by rw [HLN.out]; omega) (by rw [HMN.out]; omega) HT.out (fun u v hu hv => by
        have h1 := (List.getElem?_eq_some_iff.1 hu).1
        have h2 := (List.getElem?_eq_some_iff.1 hv).1
        rw [HLN.out] at h1
        rw [HMN.out] at h2
        omega)
      by_cases h1 : k < n
      · have f2 : decide (k < n') = false := by simp; omega
        clear hlt
        go_wp2
        refine wp_region_und (by kernel_rfl) (by kernel_rfl) ?_
        repeat (go_big_quiet_step ((first | fail)))
        refine wpQuiet_nil ?_
        intro X hX
        go_wp2
        go_ret
        exact ⟨ret_int (by rw [HF.out]), below_step' HB.out hX HB.out.size⟩
      · have f2 : decide (k < n) = false := by simp; omega
        clear hlt
        go_wp2
        refine wp_region_und (by kernel_rfl) (by kernel_rfl) ?_
        repeat (go_big_quiet_step ((first | fail)))
        refine wpQuiet_nil ?_
        intro X hX
        go_wp2
        go_ret
        exact ⟨ret_int (by rw [HF.out]), below_step' HB.out hX HB.out.size⟩
theorem Pl.entsOk_bad {l : List Entry} {k : Nat} {x : Entry} (hx : l[k]? = some x) (h : entOk x = false ∨ (0 < k ∧ x.Epoch < epAt l (k - 1))) : entsOk l = false := by
  have hk := (List.getElem?_eq_some_iff.1 hx).1
  unfold entsOk
  rw [allB_no hk, Bool.false_and]
  rw [entsP_of hx]
  rcases h with h | ⟨h0, h⟩
  · rw [h, Bool.false_and]
  · have e1 : decide (k = 0) = false := by simp; omega
    have e2 : decide (epAt l (k - 1) ≤ x.Epoch) = false := by simp; omega
    rw [e1, e2]; simp
theorem Pl.entsOk_end {l : List Entry} {k : Nat} (h : ∀ i, i < k → entsP l i = true) (hk : l.length ≤ k) : entsOk l = decide (l.length ≤ 40) := by
  unfold entsOk
  rw [allB_yes (fun i hi => h i (by omega)), Bool.true_and]
set_option maxRecDepth 100000 in
set_option maxHeartbeats 1000000 in
theorem areEntries_c (l : List Entry) (A : Option Addr) (n c : Nat) (w : World) (B : Nat) (hl : Mm.SlAt rEntry w B l A n c) (hB : B ≤ w.heap.size) :
    Calls Try.prog 52 #[.slice A n c] w fun e w' => e = .returned (.bool (Pl.entsOk l)) ∧ Below w.heap.size w w' := by
  have hn : n ≤ 9223372036854775807 := by have := hl.2.1; have := hl.2.2.1; unfold maxLen at this; omega
  have HLN : Hid (l.length = n) := hl.1
  have HL := Lib.hid hl
  clear hl
  go_enter Try.func52, Try.ntmps52
  go_wp2
  go_loopg [7] n (fun g i wr => ∃ k : Nat, n - k ≤ g ∧ k ≤ n ∧ i = .int .i64 k ∧ Hid (Below w.heap.size w wr) ∧ Hid (∀ i, i < k → Pl.entsP l i = true))
  case atStart => exact ⟨0, Nat.le_refl _, Nat.zero_le _, rfl, Below.refl _ _, Lib.hid (fun i hi => absurd hi (Nat.not_lt_zero _))⟩
  case round =>
    obtain ⟨k, hgk, hk, rfl, HB, HA⟩ := hrel
    obtain ⟨W, rfl⟩ : ∃ W : World, W = wr := ⟨_, rfl⟩
    by_cases hlt : k < n
    · have hR := HL.out.keep (w' := W) fun b hb => HB.out.block b (by omega)
      obtain ⟨x, b, off, hx, rfl, hb, i1, i2, e0, e1⟩ := rEntry_get hR hlt
      have hbw : b < W.heap.size := by have := HB.out.size; omega
      have HB2 := Lib.hid (below_new HB.out (.cells #[.int .i64 x.Epoch, .string x.Text] 111))
      have HX := Lib.hid hx
      have HEO : Hid (Pl.entOk x = (Pl.isIn x.Epoch 1 1000 && decide (x.Text.size ≤ 20))) := rfl
      have CW := fun z : Und (W.alloc (.cells #[.int .i64 x.Epoch, .string x.Text] 111)) => und_same z (within_c x.Epoch 1 1000 (und _ z))
      clear hx
      cases h1 : Pl.isIn x.Epoch 1 1000 with
      | false =>
        have HF : Hid (Pl.entsOk l = false) := Pl.entsOk_bad HX.out (.inl (by rw [HEO.out, h1]; rfl))
        rw [h1] at CW
        clear hR
        go_wp2
        refine wp_region_und (by kernel_rfl) (by kernel_rfl) ?_
        repeat (go_big_quiet_step ((first | (go_at_call 43; with_reducible exact CW _))))
        refine wpQuiet_nil ?_
        intro X hX
        go_wp2
        go_ret
        exact ⟨ret_bool (by rw [HF.out]), below_step HB2.out hX⟩
      | true =>
        rw [h1] at CW
        by_cases h2 : x.Text.size ≤ 20
        · have HE : Hid (Pl.entOk x = true) := by show _ = _; rw [HEO.out, h1]; simp [h2]
          have f2 : decide ((20 : Int) < (x.Text.size : Nat)) = false := by simp; omega
          by_cases h0 : k = 0
          · have HG : Hid (∀ i, i < k + 1 → Pl.entsP l i = true) := Lib.hid (Pl.snocB HA.out (by rw [Pl.entsP_of HX.out, HE.out]; simp [h0]))
            have hd0 : decide (0 < k) = false := by simp; omega
            clear hR h0
            go_wp2
            refine wp_region_und (by kernel_rfl) (by kernel_rfl) ?_
            repeat (go_big_quiet_step ((first | (go_at_call 43; with_reducible exact CW _))))
            refine wpQuiet_nil ?_
            intro X hX
            go_wp2
            go_roundg (n - (k + 1))
            case measure => omega
            case rel => exact ⟨k + 1, Nat.le_refl _, by omega, by go_num, below_step HB2.out hX, HG.out⟩
          · have hk0 : 0 < k := by omega
            obtain ⟨y, hy, _, _, _, e3, _⟩ := rEntry_get' hR (show k - 1 < n by omega)
            have HY := Lib.hid hy
            have f3 : (0 : Int) ≤ (k : Int) - 1 := by omega
            have f4 : 1 ≤ k := by omega
            have f5 : ((k : Int) - 1).toNat = k - 1 := by omega
            have f6 : (k : Int) - 1 < n := by omega
            clear hy hR h0
            by_cases h3 : y.Epoch ≤ x.Epoch
            · have HG : Hid (∀ i, i < k + 1 → Pl.entsP l i = true) := Lib.hid (Pl.snocB HA.out (by rw [Pl.entsP_of HX.out, HE.out, Pl.epAt_of HY.out]; simp [h3]))
              have f7 : decide (x.Epoch < y.Epoch) = false := by simp; omega
              go_wp2
              refine wp_region_und (by kernel_rfl) (by kernel_rfl) ?_
              repeat (go_big_quiet_step ((first | (go_at_call 43; with_reducible exact CW _))))
              refine wpQuiet_nil ?_
              intro X hX
              go_wp2
              go_roundg (n - (k + 1))
              case measure => omega
              case rel => exact ⟨k + 1, Nat.le_refl _, by omega, by go_num, below_step HB2.out hX, HG.out⟩
            · have HF : Hid (Pl.entsOk l = false) := Pl.entsOk_bad HX.out (.inr ⟨hk0, by rw [Pl.epAt_of HY.out]; omega⟩)
              have f7 : decide (x.Epoch < y.Epoch) = true := by simp; omega
              go_wp2
              refine wp_region_und (by kernel_rfl) (by kernel_rfl) ?_
              repeat (go_big_quiet_step ((first | (go_at_call 43; with_reducible exact CW _))))
              refine wpQuiet_nil ?_
              intro X hX
              go_wp2
              go_ret
              exact ⟨ret_bool (by rw [HF.out]), below_step HB2.out hX⟩
        · have HF : Hid (Pl.entsOk l = false) := Pl.entsOk_bad HX.out (.inl (by rw [HEO.out, h1]; simp [h2]))
          have f2 : decide ((20 : Int) < (x.Text.size : Nat)) = true := by simp; omega
          clear hR
          go_wp2
          refine wp_region_und (by kernel_rfl) (by kernel_rfl) ?_
          repeat (go_big_quiet_step ((first | (go_at_call 43; with_reducible exact CW _))))
          refine wpQuiet_nil ?_
          intro X hX
          go_wp2
          go_ret
          exact ⟨ret_bool (by rw [HF.out]), below_step HB2.out hX⟩
    · have HF : Hid (Pl.entsOk l = decide (l.length ≤ 40)) := Pl.entsOk_end HA.out (by rw [HLN.out]; omega)
      go_wp2
      go_ret
      exact ⟨ret_bool (by rw [HF.out, HLN.out]; simp; omega), HB.out⟩
set_option maxRecDepth 100000 in
set_option maxHeartbeats 1000000 in
theorem GoodEntries_c (l : List Entry) (A : Option Addr) (n c : Nat) (w : World) (B : Nat) (hl : Mm.SlAt rEntry w B l A n c) (hB : B ≤ w.heap.size) :
    Calls Try.prog 107 #[.slice A n c] w fun e w' => e = .returned (.bool (Pl.entsOk l)) ∧ Below w.heap.size w w' := by
  have hn : n ≤ 9223372036854775807 := by have := hl.2.1; have := hl.2.2.1; unfold maxLen at this; omega
  have HLN : Hid (l.length = n) := hl.1
  have HL := Lib.hid hl
  clear hl
  go_enter Try.func107, Try.ntmps107
  go_wp2
  go_loopg [7] n (fun g i wr => ∃ k : Nat, n - k ≤ g ∧ k ≤ n ∧ i = .int .i64 k ∧ Hid (Below w.heap.size w wr) ∧ Hid (∀ i, i < k → Pl.entsP l i = true))
  case atStart => exact ⟨0, Nat.le_refl _, Nat.zero_le _, rfl, Below.refl _ _, Lib.hid (fun i hi => absurd hi (Nat.not_lt_zero _))⟩
  case round =>
    obtain ⟨k, hgk, hk, rfl, HB, HA⟩ := hrel
    obtain ⟨W, rfl⟩ : ∃ W : World, W = wr := ⟨_, rfl⟩
    by_cases hlt : k < n
    · have hR := HL.out.keep (w' := W) fun b hb => HB.out.block b (by omega)
      obtain ⟨x, b, off, hx, rfl, hb, i1, i2, e0, e1⟩ := rEntry_get hR hlt
      have hbw : b < W.heap.size := by have := HB.out.size; omega
      have HB2 := Lib.hid (below_new HB.out (.cells #[.int .i64 x.Epoch, .string x.Text] 111))
      have HX := Lib.hid hx
      have HEO : Hid (Pl.entOk x = (Pl.isIn x.Epoch 1 1000 && decide (x.Text.size ≤ 20))) := rfl
      have CW := fun z : Und (W.alloc (.cells #[.int .i64 x.Epoch, .string x.Text] 111)) => und_same z (l1In_c x.Epoch 1 1000 (und _ z))
      clear hx
      cases h1 : Pl.isIn x.Epoch 1 1000 with
      | false =>
        have HF : Hid (Pl.entsOk l = false) := Pl.entsOk_bad HX.out (.inl (by rw [HEO.out, h1]; rfl))
        rw [h1] at CW
        clear hR
        go_wp2
        refine wp_region_und (by kernel_rfl) (by kernel_rfl) ?_
        repeat (go_big_quiet_step ((first | (go_at_call 71; with_reducible exact CW _))))
        refine wpQuiet_nil ?_
        intro X hX
        go_wp2
        go_ret
        exact ⟨ret_bool (by rw [HF.out]), below_step HB2.out hX⟩
      | true =>
        rw [h1] at CW
        by_cases h2 : x.Text.size ≤ 20
        · have HE : Hid (Pl.entOk x = true) := by show _ = _; rw [HEO.out, h1]; simp [h2]
          have f2 : decide ((20 : Int) < (x.Text.size : Nat)) = false := by simp; omega
          by_cases h0 : k = 0
          · have HG : Hid (∀ i, i < k + 1 → Pl.entsP l i = true) := Lib.hid (Pl.snocB HA.out (by rw [Pl.entsP_of HX.out, HE.out]; simp [h0]))
            have hd0 : decide (0 < k) = false := by simp; omega
            clear hR h0
            go_wp2
            refine wp_region_und (by kernel_rfl) (by kernel_rfl) ?_
            repeat (go_big_quiet_step ((first | (go_at_call 71; with_reducible exact CW _))))
            refine wpQuiet_nil ?_
            intro X hX
            go_wp2
            go_roundg (n - (k + 1))
            case measure => omega
            case rel => exact ⟨k + 1, Nat.le_refl _, by omega, by go_num, below_step HB2.out hX, HG.out⟩
          · have hk0 : 0 < k := by omega
            obtain ⟨y, hy, _, _, _, e3, _⟩ := rEntry_get' hR (show k - 1 < n by omega)
            have HY := Lib.hid hy
            have f3 : (0 : Int) ≤ (k : Int) - 1 := by omega
            have f4 : 1 ≤ k := by omega
            have f5 : ((k : Int) - 1).toNat = k - 1 := by omega
            have f6 : (k : Int) - 1 < n := by omega
            clear hy hR h0
            by_cases h3 : y.Epoch ≤ x.Epoch
            · have HG : Hid (∀ i, i < k + 1 → Pl.entsP l i = true) := Lib.hid (Pl.snocB HA.out (by rw [Pl.entsP_of HX.out, HE.out, Pl.epAt_of HY.out]; simp [h3]))
              have f7 : decide (x.Epoch < y.Epoch) = false := by simp; omega
              go_wp2
              refine wp_region_und (by kernel_rfl) (by kernel_rfl) ?_
              repeat (go_big_quiet_step ((first | (go_at_call 71; with_reducible exact CW _))))
              refine wpQuiet_nil ?_
              intro X hX
              go_wp2
              go_roundg (n - (k + 1))
              case measure => omega
              case rel => exact ⟨k + 1, Nat.le_refl _, by omega, by go_num, below_step HB2.out hX, HG.out⟩
            · have HF : Hid (Pl.entsOk l = false) := Pl.entsOk_bad HX.out (.inr ⟨hk0, by rw [Pl.epAt_of HY.out]; omega⟩)
              have f7 : decide (x.Epoch < y.Epoch) = true := by simp; omega
              go_wp2
              refine wp_region_und (by kernel_rfl) (by kernel_rfl) ?_
              repeat (go_big_quiet_step ((first | (go_at_call 71; with_reducible exact CW _))))
              refine wpQuiet_nil ?_
              intro X hX
              go_wp2
              go_ret
              exact ⟨ret_bool (by rw [HF.out]), below_step HB2.out hX⟩
        · have HF : Hid (Pl.entsOk l = false) := Pl.entsOk_bad HX.out (.inl (by rw [HEO.out, h1]; simp [h2]))
          have f2 : decide ((20 : Int) < (x.Text.size : Nat)) = true := by simp; omega
          clear hR
          go_wp2
          refine wp_region_und (by kernel_rfl) (by kernel_rfl) ?_
          repeat (go_big_quiet_step ((first | (go_at_call 71; with_reducible exact CW _))))
          refine wpQuiet_nil ?_
          intro X hX
          go_wp2
          go_ret
          exact ⟨ret_bool (by rw [HF.out]), below_step HB2.out hX⟩
    · have HF : Hid (Pl.entsOk l = decide (l.length ≤ 40)) := Pl.entsOk_end HA.out (by rw [HLN.out]; omega)
      go_wp2
      go_ret
      exact ⟨ret_bool (by rw [HF.out, HLN.out]; simp; omega), HB.out⟩
end Go.Proofs.Ytihendiakgfpcaa

/-
  A region that draws its order: loads and calls that at most make memory, in one walk in the order of the text; behind them, in a row, what writes. No program in sight. No conditions.
-/
namespace Go.Proofs.Ytihendiakgfpcaa
open Go.RowKit

section
variable {P : Program} {ops : Array Oper} {md : Region.Mode} {C : World → Prop}
/-- whatever comes up, for so many rounds: it is one of the first n, and quiet in C -/
def headQ (P : Program) (md : Region.Mode) (ops : Array Oper) (C : World → Prop) (n : Nat) (L : Array Bool → Act → Prop) : Nat → Array Bool → Act → Prop
  | 0, listed, a => L listed a
  | f + 1, listed, a => Region.ready md ops listed ≠ [] ∧ ∀ i ∈ Region.ready md ops listed, i < n ∧ qOp P ops C i (headQ P md ops C n L f (listed.setIfInBounds i true)) a

theorem headQ_any {n g : Nat} {L : Array Bool → Act → Prop} {Q : Exit → Act → World → Prop} (hL : ∀ listed a w, C w → L listed a → wpAny P md ops Q g listed a w) :
    ∀ (f : Nat) (listed : Array Bool) (a : Act) (w : World), C w → headQ P md ops C n L f listed a → wpAny P md ops Q (f + g) listed a w
  | 0, listed, a, w, hw, h => by rw [Nat.zero_add]; exact hL _ _ _ hw h
  | f + 1, listed, a, w, hw, h => by
    rw [show f + 1 + g = (f + g) + 1 by omega]
    exact ⟨fun h0 => absurd h0 h.1, fun i hi => wpOp_of_qOp hw (fun a' w' hw' h' => headQ_any hL f _ a' w' hw' h') (h.2 i hi).2⟩

theorem headQ_first {n i : Nat} {oi : Oper} {v : Value} {L : Array Bool → Act → Prop} (hi : ops[i]? = some oi) (hsel : ∀ (j : Nat) (o : Oper) cs b, ops[j]? = some o → o.op ≠ .select cs b)
    (hs : Region.sinkB md ops n = true) (hc : Region.chainB md ops n = true) (hn : n < ops.size) (hin : i < n) (hdone : ∀ listed a, L listed a → ∀ j ∈ Region.ready md ops listed, n ≤ j) :
    ∀ (f : Nat) (listed : Array Bool) (a : Act), HeadInv md ops n listed →
      (∀ j oj, ops[j]? = some oj → j ≠ i → listed.getD j true = false → (∀ e ∈ oj.after, Region.binds md e = true → e.on ≠ i) → oi.apart ops oj = true) →
      i ∈ Region.ready md ops listed → YieldsIn P ops C oi v a → headQ P md ops C n L f (listed.setIfInBounds i true) (a.put oi.dst v) → headQ P md ops C n L (f + 1) listed a := by
  intro f
  induction f with
  | zero =>
    intro listed a inv _ hr hy H
    have hun := (mem_ready.1 hr).1
    refine ⟨List.ne_nil_of_mem hr, fun j hj => ?_⟩
    have hjn : j < n := Nat.lt_of_not_le fun h => tail_waits hs hc hn inv _ i rfl hin hun j h hj
    refine ⟨hjn, ?_⟩
    by_cases hji : j = i
    · subst hji; exact hy.qOp hi H
    · exact absurd (hdone _ _ H j (ready_mono hj hji)) (by omega)
  | succ f ih =>
    intro listed a inv hfree hr hy H
    have hun := (mem_ready.1 hr).1
    refine ⟨List.ne_nil_of_mem hr, fun j hj => ?_⟩
    have hjn : j < n := Nat.lt_of_not_le fun h => tail_waits hs hc hn inv _ i rfl hin hun j h hj
    refine ⟨hjn, ?_⟩
    by_cases hji : j = i
    · subst hji; exact hy.qOp hi H
    · obtain ⟨hjun, oj, hoj, hall⟩ := mem_ready.1 hj
      have hnot : ∀ e ∈ oj.after, Region.binds md e = true → e.on ≠ i := fun e he hb heq => by
        have h1 := hall e he hb
        rw [heq, getD_both hun] at h1
        cases h1
      have h2 := qOp_put hoj (hfree j oj hoj hji hjun hnot) (fun cs b => hsel i oi cs b hi) (fun cs b => hsel j oj cs b hoj) hy (H.2 j (ready_mono hj hji)).2
      refine qOp_mono (fun a' h3 => ih (listed.setIfInBounds j true) a' (inv.set hj hjn) (fun k ok hk hki hku hno => hfree k ok hk hki ?_ hno) (ready_mono hr (Ne.symm hji)) h3.1 (by rw [Array.setIfInBounds_comm _ _ hji]; exact h3.2)) h2
      by_cases hjk : j = k
      · subst hjk; exact hjun
      · rwa [getD_set_ne true hjk] at hku

theorem headQ_lex {n g : Nat} {Lq : Act → Prop} (hsel : Region.noSelect ops = true) (hs : Region.sinkB md ops n = true) (hc : Region.chainB md ops n = true) (hn : n < ops.size) :
    ∀ (l : List Oper) (k : Nat) (listed : Array Bool) (a : Act), (∀ j, j < l.length → l[j]? = ops[k + j]?) → k + l.length = n → HeadInv md ops n listed →
    Region.lexHead md ops g l.length k listed = true → wpQuiet P ops C Lq l a → headQ P md ops C n (fun listed' a' => Region.seqB md ops g n listed' = true ∧ Lq a') l.length listed a
  | [], k, listed, a, _, hk, _, hB, h => by
    have : k = n := by simpa using hk
    subst this
    exact ⟨by simpa [Region.lexHead] using hB, h⟩
  | o :: l, k, listed, a, hl, hk, inv, hB, h => by
    have h0 : ops[k]? = some o := by simpa using (hl 0 (by simp)).symm
    simp only [List.length_cons, Region.lexHead, Bool.and_eq_true] at hB
    obtain ⟨⟨hr, hf⟩, hB'⟩ := hB
    simp only [List.length_cons] at hk
    have hr' : k ∈ Region.ready md ops listed := by simpa using hr
    obtain ⟨v, hy, hK⟩ := yieldsIn_of_qOp (K := wpQuiet P ops C Lq l) h0 (by unfold qOp; simp only [h0]; exact h)
    exact headQ_first h0 (Region.noSelect_spec hsel) hs hc hn (by omega) (fun listed' a' hL => seqB_ready hL.1) l.length listed a inv (Region.free_spec h0 hf) hr' hy
      (headQ_lex hsel hs hc hn l (k + 1) _ _ (fun j hj => by have := hl (j + 1) (by simp; omega); simpa [Nat.add_assoc, Nat.add_comm 1 j] using this) (by omega) (inv.set hr' (by omega)) hB' hK)
end

theorem wpQuiet_mono' {P : Program} {ops : Array Oper} {C : World → Prop} {Q Q' : Act → Prop} (hq : ∀ a, Q a → Q' a) : ∀ (l : List Oper) (a : Act), wpQuiet P ops C Q l a → wpQuiet P ops C Q' l a
  | [], a, h => hq a h
  | o :: rest, a, h => by
    unfold wpQuiet at h ⊢
    split
    · rename_i hw
      rw [if_pos hw] at h
      exact Oper.quiet_mono (fun a h => wpQuiet_mono' hq rest a h) h
    · rename_i hw
      rw [if_neg hw] at h
      exact wpQuiet_mono' hq rest _ h

/-- the first n in one walk; what stands behind them in a row, in every world in which nothing that was there has turned -/
theorem wp_region_und_tail {P : Program} {id : Nat} {Q : Exit → Act → World → Prop} {a : Act} {w : World} {l : List Oper} (n : Nat) (hm : P.follows .mixedOrders = true) (hB : Region.lexTailB .any l.toArray n = true)
    (h : wpQuiet P l.toArray (fun w' => ∃ x : Und w, w' = und w x) (fun a' => ∀ X, Below w.heap.size w X → wpList P l.toArray Q (l.drop n) a' X) (l.take n) a) : (Code.region id l.toArray true).wp P Q a w := by
  simp only [Region.lexTailB, Bool.and_eq_true, decide_eq_true_eq] at hB
  obtain ⟨⟨⟨⟨hsel, hn⟩, hs⟩, hc⟩, hlex⟩ := hB
  have hn' : n < l.length := by simpa using hn
  have htl : (l.take n).length = n := by simp; omega
  have hdl : (l.drop n).length = l.toArray.size - n := by simp
  have inv0 : HeadInv .any l.toArray n (Array.replicate l.toArray.size false) :=
    ⟨by simp, fun j oj _ hl => (by rw [getD_replicate_false] at hl; cases hl), fun t _ ht => getD_in (by simpa using ht) (getD_replicate_false _ _)⟩
  have H := headQ_lex (md := .any) (g := l.toArray.size - n) hsel hs hc hn (l.take n) 0 _ a (fun j hj => by
    have hj' : j < n := by rw [htl] at hj; exact hj
    simp [hj']) (by simpa using htl) inv0 (by rw [htl]; exact hlex) (wpQuiet_mono' (Q' := fun a' => ∀ w', (∃ x : Und w, w' = und w x) → wpList P l.toArray Q (l.drop n) a' w') (fun a' hq w' ⟨x, hx⟩ => by subst hx; exact hq _ x.h) _ _ h)
  refine wp_region_any hm ?_
  have := headQ_any (Q := Q) (C := fun w' => ∃ x : Und w, w' = und w x) (g := l.toArray.size - n) (fun listed a' w' hw' hL => by
    have := wpAny_of_seq (md := .any) (Q' := Q) (l.drop n) n listed a' w' (fun j => by simp [List.getElem?_drop]) (by rw [hdl]; exact hL.1) (hL.2 w' hw')
    rwa [hdl] at this) _ _ _ _ ⟨⟨w.drew, (Below.refl _ _).drew⟩, rfl⟩ H
  rw [htl, show n + (l.toArray.size - n) = l.toArray.size by omega] at this
  exact this
end Go.Proofs.Ytihendiakgfpcaa

/-
  A slice that grows by append: 'out = append(out, x)'. No program in sight. No conditions.
-/
namespace Go.Proofs.Ytihendiakgfpcaa
open Go.RowKit
namespace Mm
/-- all that was there in w is as it was; v holds xs, and is ours: its blocks are new since w -/
def Acc {α : Type} (E : Rep α) (t : TypeId) (w : World) (xs : List α) (v : Value) (wr : World) : Prop :=
  ∃ fp, SlOwn E t wr xs v fp ∧ fp.Nodup ∧ (∀ b, b ∈ fp → w.heap.size ≤ b) ∧ Below w.heap.size w wr
section
variable {α : Type} {E : Rep α} {t : TypeId} {w wr W2 : World} {xs : List α} {v : Value}
theorem Acc.nil (h : Below w.heap.size w wr) : Acc E t w [] (.slice none 0 0) wr := ⟨[], SlOwn.nil, List.nodup_nil, (fun b hb => by cases hb), h⟩
theorem Acc.bel (h : Acc E t w xs v wr) : Below w.heap.size w wr := by obtain ⟨_, _, _, _, hb⟩ := h; exact hb
theorem Acc.row (h : Acc E t w xs v wr) : ∀ k, v.ownBlock = some k → w.heap.size ≤ k ∧ k < wr.heap.size := by
  obtain ⟨fp, h1, h2, h3, h4⟩ := h
  have h5 := h1.olt
  obtain ⟨es, _, _, rfl⟩ := h1
  intro k hk
  have hm : k ∈ v.ownBlock.toList ++ es.flatMap (·.2) := List.mem_append_left _ (by rw [hk]; simp)
  exact ⟨h3 k hm, h5 k hm⟩
theorem Acc.addr {A : Option Addr} {n c : Nat} (h : Acc E t w xs (.slice A n c) wr) (h0 : 0 < xs.length) : ∃ g, A = some ⟨g, 0, none⟩ ∧ w.heap.size ≤ g ∧ g < wr.heap.size := by
  have hr := h.row
  obtain ⟨fp, h1, h2, h3, h4⟩ := h
  obtain ⟨es, he, ho, rfl⟩ := h1
  obtain ⟨g, cap, hf, _⟩ := ho.form h0
  injection hf with hA
  subst hA
  exact ⟨g, rfl, hr g rfl⟩
theorem Acc.frozen {g n c : Nat} (h : Acc E t w xs (.slice (some ⟨g, 0, none⟩) n c) wr) (j : Nat) : wr.frozen? ⟨g, j, none⟩ = false := by
  obtain ⟨fp, h1, h2, h3, h4⟩ := h
  exact h1.frozen j
theorem Acc.step (h : Acc E t w xs v wr) (hb : Below wr.heap.size wr W2) : Acc E t w xs v W2 := by
  obtain ⟨fp, h1, h2, h3, h4⟩ := h
  exact ⟨fp, h1.okeep fun b hb' => hb.block b (h1.olt b hb'), h2, h3, below_step h4 hb⟩
theorem Acc.form (h : Acc E t w xs v wr) : ∃ A n c, v = .slice A n c ∧ n = xs.length ∧ n ≤ c ∧ c ≤ maxLen ∧ (A = none → c = 0) := by
  obtain ⟨_, h1, _⟩ := h; exact h1.form
theorem Acc.ret {A : Option Addr} {n c : Nat} {b : Bool} (h : Acc E t w xs (.slice A n c) wr) : RetS2 E t w xs b (.returned (.tuple #[.slice A n c, .bool b])) wr := by
  obtain ⟨fp, h1, h2, h3, h4⟩ := h
  exact ⟨A, n, c, fp, rfl, h1, h2, h3, h4⟩
theorem Acc.at_ {A : Option Addr} {n c : Nat} (h : Acc E t w xs (.slice A n c) wr) : SlAt E wr wr.heap.size xs A n c := by
  obtain ⟨fp, h1, h2, h3, h4⟩ := h
  exact h1.weak h1.olt
theorem Acc.push (h : Acc E t w xs v wr) (hb2 : Below wr.heap.size wr W2) {x : α} {cx : List Value} {fx : List Nat} (hx : E.own W2 x cx fx) (hxd : fx.Nodup) (hxf : ∀ b, b ∈ fx → wr.heap.size ≤ b) :
    ∃ l, W2.ownsRow 0 t E.size v xs.length l ∧ ∀ gg cap w1, w1.ownsRow 0 t E.size (.slice (some ⟨gg, 0, none⟩) (xs.length + 1) cap) (xs.length + 1) (l ++ cx) → W2.grownBy w1 v.ownBlock → (v.ownBlock = some gg ∨ gg = W2.heap.size) →
      Acc E t w (xs ++ [x]) (.slice (some ⟨gg, 0, none⟩) (xs.length + 1) cap) w1 := by
  obtain ⟨fp, h1, h2, h3, h4⟩ := h
  have hown2 := h1.okeep (w' := W2) fun b hb => hb2.block b (h1.olt b hb)
  obtain ⟨l, ho2, hnext⟩ := hown2.push hx h2 hxd (fun b hb hm => by have := hxf b hb; have := h1.olt b hm; omega)
  refine ⟨l, ho2, fun gg cap w1 k1 k2 k3 => ?_⟩
  obtain ⟨fp', h5, h6, h7⟩ := hnext _ w1 k1 k2 (k3.elim (fun h => .inl h.symm) (fun h => .inr (by rw [h]; rfl)))
  have hs := h4.size
  have hs2 := hb2.size
  refine ⟨fp', h5, h6, fun b hb => ?_, (below_step h4 hb2).grown k2 (by omega) (fun k hk => h3 k ?_)⟩
  · rcases h7 b hb with h | h | h
    · exact h3 b h
    · have := hxf b h; omega
    · omega
  · obtain ⟨es, _, _, rfl⟩ := h1
    exact List.mem_append_left _ (by rw [hk]; simp)
end
end Mm
end Go.Proofs.Ytihendiakgfpcaa

/-
  A slice copied by append: 'slices.Clone', 'append([]T{}, l...)', where the elements lead nowhere. No program in sight. No conditions.
-/
namespace Go.Proofs.Ytihendiakgfpcaa
open Go.RowKit
namespace Mm
theorem flatMap_inv {β γ : Type} (f : β → List γ) (s : Nat) : ∀ (l : List β), (∀ y ∈ l, (f y).length = s) → ∀ (j : Nat) (u : γ), (l.flatMap f)[j]? = some u → ∃ i r y, j = i * s + r ∧ l[i]? = some y ∧ (f y)[r]? = some u
  | [], _, j, u, h => by simp at h
  | z :: t, hl, j, u, h => by
    have hz := hl z (by simp)
    rw [List.flatMap_cons] at h
    by_cases hj : j < s
    · rw [List.getElem?_append_left (by omega)] at h
      exact ⟨0, j, z, by omega, rfl, h⟩
    · rw [List.getElem?_append_right (by omega), hz] at h
      obtain ⟨i, r, y, h1, h2, h3⟩ := flatMap_inv f s t (fun y hy => hl y (by simp [hy])) _ _ h
      exact ⟨i + 1, r, y, by rw [Nat.add_mul]; omega, h2, h3⟩
section
variable {α : Type} {E : Rep α} {e : TypeId} {w w1 : World} {B : Nat} {xs : List α} {n c : Nat} {v : Value}
/-- the cells of a slice whose elements lead nowhere -/
theorem flat_cells {enc : α → List Value} {b off : Nat} (hE : ∀ x cs, E.at_ w B x cs → cs = enc x) (h : SlAt E w B xs (some ⟨b, off, none⟩) n c) :
    ∀ j u, (xs.flatMap enc)[j]? = some u → w.cell? ⟨b, off + j, none⟩ = some u := by
  have hlen : ∀ y ∈ xs, (enc y).length = E.size := fun y hy => by
    obtain ⟨i, hi, rfl⟩ := List.mem_iff_getElem.1 hy
    obtain ⟨x, cs, hx, _, ha, _⟩ := h.get' (k := i) (by rw [← h.1]; exact hi)
    rw [List.getElem?_eq_getElem hi] at hx
    injection hx with hx
    subst hx
    rw [← hE _ _ ha]
    exact E.len ha
  intro j u hu
  obtain ⟨i, r, y, rfl, h2, h3⟩ := flatMap_inv enc E.size xs hlen j u hu
  obtain ⟨x, cs, hx, _, ha, hc⟩ := h.get' (k := i) (by rw [← h.1]; exact (List.getElem?_eq_some_iff.1 h2).1)
  rw [h2] at hx
  injection hx with hx
  subst hx
  rw [hE _ _ ha] at hc
  have := hc r u h3
  rwa [Nat.add_assoc] at this
theorem flat_cells' {enc : α → List Value} {a : Addr} (hE : ∀ x cs, E.at_ w B x cs → cs = enc x) (h : SlAt E w B xs (some a) n c) :
    ∀ j u, (xs.flatMap enc)[j]? = some u → w.cell? (a.add j) = some u := by
  intro j u hu
  have hn : 0 < n := by
    apply Classical.byContradiction
    intro hn
    have h0 : xs = [] := List.length_eq_zero_iff.1 (by rw [h.1]; omega)
    rw [h0] at hu
    simp at hu
  obtain ⟨x, b, off, cs, _, hA, _⟩ := h.get hn
  injection hA with hA
  subst hA
  rw [Addr.add_lit]
  exact flat_cells hE h j u hu
/-- s[k:] -/
theorem SlAt.drop {b off k : Nat} (h : SlAt E w B xs (some ⟨b, off, none⟩) n c) (hk : k ≤ n) : SlAt E w B (xs.drop k) (some ⟨b, off + k * E.size, none⟩) (n - k) (c - k) := by
  obtain ⟨h1, h2, h3, h4, h5⟩ := h
  refine ⟨by rw [List.length_drop]; omega, by omega, by omega, (fun hh => by cases hh), fun i x hx => ?_⟩
  rw [List.getElem?_drop] at hx
  obtain ⟨b', off', cs, hA, hb, ha, hc⟩ := h5 (k + i) x hx
  injection hA with hA
  injection hA with e1 e2
  subst e1; subst e2
  refine ⟨b, _, cs, rfl, hb, ha, fun j u hu => ?_⟩
  have := hc j u hu
  rw [Nat.add_mul, ← Nat.add_assoc] at this
  exact this
theorem SlOwn.of_row {enc : α → List Value} (ho : w.ownsRow 0 e E.size v n (xs.flatMap enc)) (hE : ∀ x, x ∈ xs → E.own w x (enc x) []) (hl : xs.length = n) : SlOwn E e w xs v v.ownBlock.toList := by
  have h1 : ∀ l : List α, (l.map fun x => (enc x, ([] : List Nat))).flatMap (·.1) = l.flatMap enc := fun l => by simp [List.flatMap_map]
  have h2 : ∀ l : List α, (l.map fun x => (enc x, ([] : List Nat))).flatMap (·.2) = [] := fun l => by simp [List.flatMap_map]
  subst hl
  refine ⟨xs.map fun x => (enc x, []), ⟨by simp, fun i x y hx hy => ?_⟩, by rw [h1]; exact ho, by rw [h2]; simp⟩
  rw [List.getElem?_map, hx] at hy
  simp at hy
  subst hy
  exact hE x (List.mem_of_getElem? hx)
theorem flat_len {enc : α → List Value} {A : Option Addr} (hE : ∀ x cs, E.at_ w B x cs → cs = enc x) (h : SlAt E w B xs A n c) : (xs.flatMap enc).length = n * E.size := by
  have hlen : ∀ y ∈ xs, (enc y).length = E.size := fun y hy => by
    obtain ⟨i, hi, rfl⟩ := List.mem_iff_getElem.1 hy
    obtain ⟨x, b, off, cs, hx, _, _, ha, _⟩ := h.get (k := i) (by rw [← h.1]; exact hi)
    rw [List.getElem?_eq_getElem hi] at hx
    injection hx with hx
    subst hx
    rw [← hE _ _ ha]
    exact E.len ha
  rw [← h.1]
  clear h
  induction xs with
  | nil => simp
  | cons z t ih => rw [List.flatMap_cons, List.length_append, ih (fun y hy => hlen y (by simp [hy])), hlen z (by simp), List.length_cons, Nat.add_mul]; omega
/-- what 'append(T{}, l...)' leaves, T{} laid in the newest block of w -/
theorem clone_post {enc : α → List Value} {o : Obj} {xs' : List Value} {m : Nat} (hm : m = n) (hx : xs' = xs.flatMap enc) (hown : w1.ownsRow w.heap.size e E.size v m xs') (hgrow : (w.alloc o).grownBy w1 (some w.heap.size)) (hE : ∀ x, x ∈ xs → E.own w1 x (enc x) []) (hl : xs.length = n) :
    Acc E e w xs v w1 := by
  subst hm; subst hx
  have hb : ∀ k, v.ownBlock = some k → w.heap.size ≤ k := fun k hk => (hown.lt k hk).1
  have h0 : w1.ownsRow 0 e E.size v m (xs.flatMap enc) := ⟨hown.1, hown.2.imp id fun ⟨g, cap, cur, h1, _, h3⟩ => ⟨g, cap, cur, h1, Nat.zero_le _, h3⟩⟩
  refine ⟨_, SlOwn.of_row h0 hE hl, by cases v.ownBlock <;> simp, fun b hb' => hb b (by simpa using hb'), ?_⟩
  exact (below_new (Below.refl _ _) o).grown hgrow (by rw [Mm.sz1]; omega) (fun k hk => by injection hk with hk; omega)
theorem Acc.newsl (h : Acc E e w xs v w1) : NewSl E e w xs (.returned v) w1 := by
  obtain ⟨fp, h1, h2, h3, h4⟩ := h
  obtain ⟨A, n, c, rfl, _⟩ := h1.form
  exact ⟨A, n, c, fp, rfl, h1, h2, h3, h4⟩
end
section
variable {α : Type} {E : Rep α} {t : TypeId} {w wr : World} {xs : List α}
/-- element i, which leads nowhere, is stored whole -/
theorem Acc.setAll {g n c i : Nat} {x : α} {cs : List Value} (h : Acc E t w xs (.slice (some ⟨g, 0, none⟩) n c) wr) (hi : i < xs.length) (hx : E.own wr x cs []) :
    Acc E t w (xs.set i x) (.slice (some ⟨g, 0, none⟩) n c) (setCells wr g (i * E.size) cs) := by
  obtain ⟨fp, h1, h2, h3, h4⟩ := h
  obtain ⟨fp', k1, k2, k3⟩ := h1.set hi hx h2 List.nodup_nil (fun b hb => by cases hb)
  refine ⟨fp', k1, k2, fun b hb => h3 b ((k3 b hb).resolve_right (fun hh => by cases hh)), ?_⟩
  exact h4.grown (setCells_grown _ _ _ _) h4.size (fun k hk => by injection hk with hk; subst hk; exact h3 _ h1.mem_block)
/-- one cell of element i is stored into -/
theorem Acc.put {g n c i j : Nat} {x x' : α} {u : Value} (h : Acc E t w xs (.slice (some ⟨g, 0, none⟩) n c) wr) (hi : xs[i]? = some x) (hj : j < E.size) (hx : ∀ cs fx, E.own wr x cs fx → E.own wr x' (cs.set j u) fx) :
    Acc E t w (xs.set i x') (.slice (some ⟨g, 0, none⟩) n c) (wr.setCell ⟨g, i * E.size + j, none⟩ u) := by
  obtain ⟨fp, h1, h2, h3, h4⟩ := h
  exact ⟨fp, h1.store h2 hi hj hx, h2, h3, h4.setCell (h3 g h1.mem_block) _⟩
end
end Mm
end Go.Proofs.Ytihendiakgfpcaa

/-
  What a call owns: a list of things in memory, no block twice, all of them new since the call began; how the list goes on when one of them is changed. No program in sight. No conditions.
-/
namespace Go.Proofs.Ytihendiakgfpcaa
open Go.RowKit
namespace Mm
structure Thing where
  fp : List Nat
  holds : World → Prop
  keep : ∀ {w w' : World}, holds w → (∀ b, b ∈ fp → w'.heap[b]? = w.heap[b]?) → holds w'
  lt : ∀ {w : World}, holds w → ∀ b, b ∈ fp → b < w.heap.size
def tblk (g : Nat) (t : TypeId) (cs : List Value) : Thing := ⟨[g], fun w => Blk w g t cs, fun h k => h.keep (k g (by simp)), fun h b hb => by rw [List.mem_singleton.1 hb]; exact h.lt⟩
def tsl {α : Type} (E : Rep α) (e : TypeId) (xs : List α) (v : Value) (fp : List Nat) : Thing := ⟨fp, fun w => SlOwn E e w xs v fp, fun h k => h.okeep k, fun h => h.olt⟩
def tow {α : Type} (R : Rep α) (x : α) (cs : List Value) (fp : List Nat) : Thing := ⟨fp, fun w => R.own w x cs fp, fun h k => R.okeep h k, fun h => R.olt h⟩
def tnil : Thing := ⟨[], fun _ => True, fun _ _ => trivial, fun _ b hb => by cases hb⟩

structure Sep (w0 wr : World) (ts : List Thing) : Prop where
  bel : Below w0.heap.size w0 wr
  nd : (ts.flatMap (·.fp)).Nodup
  new : ∀ b, b ∈ ts.flatMap (·.fp) → w0.heap.size ≤ b
  hold : ∀ t, t ∈ ts → t.holds wr

theorem flat_split {β γ : Type} (f : β → List γ) {l : List β} {i : Nat} {x : β} (h : l[i]? = some x) (y : β) :
    l.flatMap f = (l.take i).flatMap f ++ (f x ++ (l.drop (i + 1)).flatMap f) ∧ (l.set i y).flatMap f = (l.take i).flatMap f ++ (f y ++ (l.drop (i + 1)).flatMap f) := by
  obtain ⟨hi, hx⟩ := List.getElem?_eq_some_iff.1 h
  subst hx
  constructor
  · conv => lhs; rw [show l = l.take i ++ l[i] :: l.drop (i + 1) by rw [← List.drop_eq_getElem_cons hi, List.take_append_drop]]
    rw [List.flatMap_append, List.flatMap_cons]
  · rw [List.set_eq_take_append_cons_drop, if_pos hi, List.flatMap_append, List.flatMap_cons]

section
variable {w0 wr W : World} {ts : List Thing} {t t' s : Thing} {i j : Nat}
theorem Sep.start (w : World) : Sep w w [] := ⟨Below.refl _ _, by simp, by simp, by simp⟩
theorem Sep.start' {w W : World} (h : Below w.heap.size w W) : Sep w W [] := ⟨h, by simp, by simp, by simp⟩
theorem Sep.at_ (h : Sep w0 wr ts) (i : Nat) (hi : ts[i]? = some t) : t.holds wr := h.hold t (List.mem_of_getElem? hi)
theorem Sep.mem (hi : ts[i]? = some t) {b : Nat} (hb : b ∈ t.fp) : b ∈ ts.flatMap (·.fp) := List.mem_flatMap.2 ⟨t, List.mem_of_getElem? hi, hb⟩
theorem Sep.lt (h : Sep w0 wr ts) : ∀ b, b ∈ ts.flatMap (·.fp) → b < wr.heap.size := fun b hb => by
  obtain ⟨t, ht, hb⟩ := List.mem_flatMap.1 hb
  exact t.lt (h.hold t ht) b hb
theorem Sep.ndat (h : Sep w0 wr ts) (hi : ts[i]? = some t) : t.fp.Nodup := by
  have := h.nd
  rw [(flat_split (·.fp) hi t).1] at this
  exact ((List.nodup_append.1 this).2.1 |> List.nodup_append.1).1
theorem Sep.apart (h : Sep w0 wr ts) (hi : ts[i]? = some t) (hj : ts[j]? = some s) (hij : i ≠ j) : ∀ b, b ∈ t.fp → b ∉ s.fp := by
  have hnd := h.nd
  rw [(flat_split (·.fp) hi t).1, List.nodup_append, List.nodup_append] at hnd
  intro b hb hs
  rcases Nat.lt_or_gt_of_ne hij with h1 | h1
  · refine hnd.2.1.2.2 b hb b (List.mem_flatMap.2 ⟨s, List.mem_of_getElem? (i := j - (i + 1)) ?_, hs⟩) rfl
    rw [List.getElem?_drop, show i + 1 + (j - (i + 1)) = j by omega]; exact hj
  · refine hnd.2.2 b (List.mem_flatMap.2 ⟨s, List.mem_of_getElem? (i := j) ?_, hs⟩) b (List.mem_append_left _ hb) rfl
    rw [List.getElem?_take, if_pos h1]; exact hj
theorem Sep.step (h : Sep w0 wr ts) (hb : Below wr.heap.size wr W) : Sep w0 W ts :=
  ⟨below_step h.bel hb, h.nd, h.new, fun t ht => t.keep (h.hold t ht) fun b hb' => hb.block b (h.lt b (List.mem_flatMap.2 ⟨t, ht, hb'⟩))⟩
theorem Sep.add (h : Sep w0 wr ts) (hb : Below wr.heap.size wr W) (ht : t.holds W) (hnd : t.fp.Nodup) (hnew : ∀ b, b ∈ t.fp → wr.heap.size ≤ b) : Sep w0 W (t :: ts) := by
  have h1 := h.step hb
  refine ⟨h1.bel, ?_, fun b hb' => ?_, fun u hu => ?_⟩
  · rw [List.flatMap_cons, List.nodup_append]
    exact ⟨hnd, h.nd, fun a ha b hb' e => by subst e; have := hnew a ha; have := h.lt a hb'; omega⟩
  · rw [List.flatMap_cons] at hb'
    rcases List.mem_append.1 hb' with hb' | hb'
    · have := hnew b hb'; have := h.bel.size; omega
    · exact h.new b hb'
  · rcases List.mem_cons.1 hu with rfl | hu
    · exact ht
    · exact h1.hold u hu
theorem Sep.alloc (h : Sep w0 wr ts) (t : TypeId) (cs : List Value) : Sep w0 (wr.alloc (.cells cs.toArray t)) (tblk wr.heap.size t cs :: ts) :=
  h.add (below_new (Below.refl _ _) _) (Blk.new wr t cs) (by simp [tblk]) (by simp [tblk])
theorem Sep.alloc' {g : Nat} (h : Sep w0 wr ts) (hg : wr.heap.size = g) (t : TypeId) (cs : List Value) : Sep w0 (wr.alloc (.cells cs.toArray t)) (tblk g t cs :: ts) := by subst hg; exact h.alloc t cs
/-- thing number i has been changed, and nothing else that was there -/
theorem Sep.upd (h : Sep w0 wr ts) (hi : ts[i]? = some t) (hc : Chg t.fp wr W) (ht : t'.holds W) (hnd : t'.fp.Nodup) (hsub : ∀ b, b ∈ t'.fp → b ∈ t.fp ∨ wr.heap.size ≤ b) : Sep w0 W (ts.set i t') := by
  have hs := flat_split (·.fp) hi t'
  have hN := h.nd
  rw [hs.1, List.nodup_append, List.nodup_append] at hN
  have hL := h.lt
  rw [hs.1] at hL
  refine ⟨Below.chg h.bel hc h.bel.size (fun x hx => h.new x (Sep.mem hi hx)), ?_, ?_, ?_⟩
  · rw [hs.2, List.nodup_append, List.nodup_append]
    refine ⟨hN.1, ⟨hnd, hN.2.1.2.1, fun a ha b hb e => ?_⟩, fun a ha b hb e => ?_⟩
    · subst e
      rcases hsub a ha with h1 | h1
      · exact hN.2.1.2.2 a h1 a hb rfl
      · have := hL a (List.mem_append_right _ (List.mem_append_right _ hb)); omega
    · subst e
      rcases List.mem_append.1 hb with hb | hb
      · rcases hsub a hb with h1 | h1
        · exact hN.2.2 a ha a (List.mem_append_left _ h1) rfl
        · have := hL a (List.mem_append_left _ ha); omega
      · exact hN.2.2 a ha a (List.mem_append_right _ hb) rfl
  · intro b hb
    obtain ⟨u, hu, hb2⟩ := List.mem_flatMap.1 hb
    rcases List.mem_or_eq_of_mem_set hu with h1 | h1
    · exact h.new b (List.mem_flatMap.2 ⟨u, h1, hb2⟩)
    · rw [h1] at hb2
      rcases hsub b hb2 with h1 | h1
      · exact h.new b (Sep.mem hi h1)
      · have := h.bel.size; omega
  · intro u hu
    obtain ⟨k, hk⟩ := List.mem_iff_getElem?.1 hu
    by_cases hik : i = k
    · subst hik
      rw [List.getElem?_set_self (List.getElem?_eq_some_iff.1 hi).1] at hk
      injection hk with hk
      subst hk
      exact ht
    · rw [List.getElem?_set_ne hik] at hk
      have hu' := h.hold u (List.mem_of_getElem? hk)
      exact u.keep hu' fun b hb => hc.block b (u.lt hu' b hb) (fun hm => h.apart hi hk hik b hm hb)
/-- things i and j have been changed into one -/
theorem Sep.upd2 (h : Sep w0 wr ts) (hij : i ≠ j) (hi : ts[i]? = some t) (hj : ts[j]? = some s) (hc : Chg (t.fp ++ s.fp) wr W) (ht : t'.holds W) (hnd : t'.fp.Nodup) (hsub : ∀ b, b ∈ t'.fp → b ∈ t.fp ∨ b ∈ s.fp ∨ wr.heap.size ≤ b) :
    Sep w0 W ((ts.set j tnil).set i t') := by
  -- first the two are one thing, at i
  have hji : (ts.set j tnil)[i]? = some t := by rw [List.getElem?_set_ne (Ne.symm hij)]; exact hi
  have h1 : Sep w0 wr ((ts.set j tnil).set i ⟨t.fp ++ s.fp, fun w => t.holds w ∧ s.holds w, fun hh k => ⟨t.keep hh.1 fun b hb => k b (List.mem_append_left _ hb), s.keep hh.2 fun b hb => k b (List.mem_append_right _ hb)⟩,
      fun hh b hb => (List.mem_append.1 hb).elim (t.lt hh.1 b) (s.lt hh.2 b)⟩) := by
    have h2 : Sep w0 wr (ts.set j tnil) := h.upd hj (Chg.refl _ _) trivial (by simp [tnil]) (fun b hb => by cases hb)
    have ha := h.apart hi hj hij
    have hns := h.ndat hj
    have hs := flat_split (·.fp) hji ⟨t.fp ++ s.fp, fun w => t.holds w ∧ s.holds w, fun hh k => ⟨t.keep hh.1 fun b hb => k b (List.mem_append_left _ hb), s.keep hh.2 fun b hb => k b (List.mem_append_right _ hb)⟩,
      fun hh b hb => (List.mem_append.1 hb).elim (t.lt hh.1 b) (s.lt hh.2 b)⟩
    have hN := h2.nd
    rw [hs.1, List.nodup_append, List.nodup_append] at hN
    have hap : ∀ b, b ∈ s.fp → b ∉ (ts.set j tnil).flatMap (·.fp) := fun b hb hm => by
      obtain ⟨u, hu, hb'⟩ := List.mem_flatMap.1 hm
      obtain ⟨k, hk⟩ := List.mem_iff_getElem?.1 hu
      by_cases hjk : j = k
      · subst hjk
        rw [List.getElem?_set_self (List.getElem?_eq_some_iff.1 hj).1] at hk
        injection hk with hk
        subst hk
        cases hb'
      · rw [List.getElem?_set_ne hjk] at hk
        exact h.apart hj hk hjk b hb hb'
    rw [hs.1] at hap
    refine ⟨h2.bel, ?_, ?_, ?_⟩
    · rw [hs.2, List.nodup_append, List.nodup_append]
      refine ⟨hN.1, ⟨?_, hN.2.1.2.1, fun a ha' b hb e => ?_⟩, fun a ha' b hb e => ?_⟩
      · show (t.fp ++ s.fp).Nodup
        rw [List.nodup_append]
        exact ⟨hN.2.1.1, hns, fun a h3 b h4 e => by subst e; exact ha a h3 h4⟩
      · subst e
        rcases List.mem_append.1 ha' with h3 | h3
        · exact hN.2.1.2.2 a h3 a hb rfl
        · exact hap a h3 (List.mem_append_right _ (List.mem_append_right _ hb))
      · subst e
        rcases List.mem_append.1 hb with hb | hb
        · rcases List.mem_append.1 hb with h3 | h3
          · exact hN.2.2 a ha' a (List.mem_append_left _ h3) rfl
          · exact hap a h3 (List.mem_append_left _ ha')
        · exact hN.2.2 a ha' a (List.mem_append_right _ hb) rfl
    · intro b hb
      rw [hs.2] at hb
      rcases List.mem_append.1 hb with hb | hb
      · exact h2.new b (by rw [hs.1]; exact List.mem_append_left _ hb)
      · rcases List.mem_append.1 hb with hb | hb
        · rcases List.mem_append.1 hb with h3 | h3
          · exact h.new b (Sep.mem hi h3)
          · exact h.new b (Sep.mem hj h3)
        · exact h2.new b (by rw [hs.1]; exact List.mem_append_right _ (List.mem_append_right _ hb))
    · intro u hu
      rcases List.mem_or_eq_of_mem_set hu with h3 | rfl
      · exact h2.hold u h3
      · exact ⟨h.at_ i hi, h.at_ j hj⟩
  have hlt : i < (ts.set j tnil).length := (List.getElem?_eq_some_iff.1 hji).1
  have h3 := h1.upd (i := i) (List.getElem?_set_self hlt) hc ht hnd (fun b hb => by
    rcases hsub b hb with h | h | h
    · exact .inl (List.mem_append_left _ h)
    · exact .inl (List.mem_append_right _ h)
    · exact .inr h)
  rwa [List.set_set] at h3
end
section
variable {w0 wr W2 : World} {ts : List Thing} {s : Thing} {i j : Nat}
theorem Sep.setBlk {g k : Nat} {t : TypeId} {cs : List Value} (h : Sep w0 wr ts) (i : Nat) (hi : ts[i]? = some (tblk g t cs)) (u : Value) : Sep w0 (wr.setCell ⟨g, k, none⟩ u) (ts.set i (tblk g t (cs.set k u))) :=
  h.upd hi ((Chg.refl _ _).setCell (by simp [tblk]) u) ((show Blk wr g t cs from h.at_ i hi).set_ k u) (by simp [tblk]) (fun b hb => .inl hb)
variable {α : Type} {E : Rep α} {e : TypeId} {xs : List α} {v : Value} {fp : List Nat} {x : α} {cx : List Value}
theorem Sep.putSl {g n c k m : Nat} {x x' : α} {u : Value} (h : Sep w0 wr ts) (i : Nat) (hi : ts[i]? = some (tsl E e xs (.slice (some ⟨g, 0, none⟩) n c) fp)) (hk : xs[k]? = some x) (hm : m < E.size) (hx : ∀ cs fx, E.own wr x cs fx → E.own wr x' (cs.set m u) fx) :
    Sep w0 (wr.setCell ⟨g, k * E.size + m, none⟩ u) (ts.set i (tsl E e (xs.set k x') (.slice (some ⟨g, 0, none⟩) n c) fp)) := by
  have h1 : SlOwn E e wr xs (.slice (some ⟨g, 0, none⟩) n c) fp := h.at_ i hi
  have hnd : fp.Nodup := h.ndat hi
  exact h.upd hi ((Chg.refl _ _).setCell h1.mem_block u) (h1.store hnd hk hm hx) hnd (fun b hb => .inl hb)
theorem row_in {w : World} (h : SlOwn E e w xs v fp) {k : Nat} (hk : v.ownBlock = some k) : k ∈ fp := by
  obtain ⟨es, _, _, rfl⟩ := h
  exact List.mem_append_left _ (by rw [hk]; simp)
theorem Sep.put1 {g n c k : Nat} {x x' : α} {u : Value} (h : Sep w0 wr ts) (i : Nat) (hi : ts[i]? = some (tsl E e xs (.slice (some ⟨g, 0, none⟩) n c) fp)) (hE : E.size = 1) (hk : xs[k]? = some x) (hx : ∀ cs fx, E.own wr x cs fx → E.own wr x' [u] fx) :
    Sep w0 (wr.setCell ⟨g, k, none⟩ u) (ts.set i (tsl E e (xs.set k x') (.slice (some ⟨g, 0, none⟩) n c) fp)) := by
  have h1 := h.putSl (m := 0) (u := u) (x' := x') i hi hk (by omega) (fun cs fx ho => by
    have hl := E.olen ho
    rw [hE] at hl
    obtain ⟨a, rfl⟩ := List.length_eq_one_iff.1 hl
    exact hx _ _ ho)
  rwa [show k * E.size + 0 = k by rw [hE]; omega] at h1
theorem Sep.tail {t : Thing} (h : Sep w0 wr (t :: ts)) : Sep w0 wr ts := ⟨h.bel, by have := h.nd; rw [List.flatMap_cons, List.nodup_append] at this; exact this.2.1, fun b hb => h.new b (by rw [List.flatMap_cons]; exact List.mem_append_right _ hb), fun t ht => h.hold t (List.mem_cons_of_mem _ ht)⟩
theorem sl_addr {w : World} {A : Option Addr} {n c : Nat} (h : SlOwn E e w xs (.slice A n c) fp) (h0 : 0 < xs.length) : ∃ g, A = some ⟨g, 0, none⟩ ∧ g ∈ fp ∧ n = xs.length := by
  obtain ⟨A', n', c', hv, hn, _⟩ := h.form
  injection hv with h1 h2 h3
  have hm := fun g (hg : (Value.slice A n c).ownBlock = some g) => row_in h hg
  obtain ⟨es, he, ho, rfl⟩ := h
  obtain ⟨g, cap, hf, _⟩ := ho.form h0
  injection hf with hA
  subst hA
  exact ⟨g, rfl, hm g rfl, by omega⟩
theorem Sep.own0 (h : Sep w0 wr ts) (i : Nat) (hi : ts[i]? = some (tsl E e xs v fp)) : SlOwn E e wr xs v fp ∧ fp.Nodup ∧ (∀ b, b ∈ fp → w0.heap.size ≤ b) ∧ Below w0.heap.size w0 wr :=
  ⟨h.at_ i hi, h.ndat hi, fun b hb => h.new b (Sep.mem hi hb), h.bel⟩
/-- append, the new element a thing of the list -/
theorem Sep.push (h : Sep w0 wr ts) (i j : Nat) (hij : i ≠ j) (hi : ts[i]? = some (tsl E e xs v fp)) (hj : ts[j]? = some s) (hb : Below wr.heap.size wr W2) (hx : ∀ W, s.holds W → E.own W x cx s.fp) :
    ∃ l, W2.ownsRow 0 e E.size v xs.length l ∧ ∀ gg cap w1, w1.ownsRow 0 e E.size (.slice (some ⟨gg, 0, none⟩) (xs.length + 1) cap) (xs.length + 1) (l ++ cx) → W2.grownBy w1 v.ownBlock → (v.ownBlock = some gg ∨ gg = W2.heap.size) →
      ∃ fp', Sep w0 w1 ((ts.set j tnil).set i (tsl E e (xs ++ [x]) (.slice (some ⟨gg, 0, none⟩) (xs.length + 1) cap) fp')) := by
  have h2 := h.step hb
  have ho : SlOwn E e W2 xs v fp := h2.at_ i hi
  have hs := hx _ (h2.at_ j hj)
  obtain ⟨l, k1, k2⟩ := ho.push hs (h2.ndat hi) (h2.ndat hj) (fun b hb hm => h2.apart hi hj hij b hm hb)
  refine ⟨l, k1, fun gg cap w1 g1 g2 g3 => ?_⟩
  obtain ⟨fp', m1, m2, m3⟩ := k2 _ w1 g1 g2 (g3.elim (fun h => .inl h.symm) (fun h => .inr (by rw [h]; rfl)))
  refine ⟨fp', h2.upd2 hij hi hj ?_ m1 m2 (fun b hb => ?_)⟩
  · exact ⟨g2.os, g2.tape, g2.output, g2.size, fun k hk hn => g2.block k hk (fun hh => hn (List.mem_append_left _ (row_in ho hh.symm)))⟩
  · rcases m3 b hb with h | h | h
    · exact .inl h
    · exact .inr (.inl h)
    · exact .inr (.inr (by omega))
/-- append, the new element leads nowhere -/
theorem Sep.push0 (h : Sep w0 wr ts) (i : Nat) (hi : ts[i]? = some (tsl E e xs v fp)) (hb : Below wr.heap.size wr W2) (hx : E.own W2 x cx []) :
    ∃ l, W2.ownsRow 0 e E.size v xs.length l ∧ ∀ gg cap w1, w1.ownsRow 0 e E.size (.slice (some ⟨gg, 0, none⟩) (xs.length + 1) cap) (xs.length + 1) (l ++ cx) → W2.grownBy w1 v.ownBlock → (v.ownBlock = some gg ∨ gg = W2.heap.size) →
      ∃ fp', Sep w0 w1 (ts.set i (tsl E e (xs ++ [x]) (.slice (some ⟨gg, 0, none⟩) (xs.length + 1) cap) fp')) := by
  have h2 := h.step hb
  have ho : SlOwn E e W2 xs v fp := h2.at_ i hi
  obtain ⟨l, k1, k2⟩ := ho.push hx (h2.ndat hi) List.nodup_nil (fun b hb => by cases hb)
  refine ⟨l, k1, fun gg cap w1 g1 g2 g3 => ?_⟩
  obtain ⟨fp', m1, m2, m3⟩ := k2 _ w1 g1 g2 (g3.elim (fun h => .inl h.symm) (fun h => .inr (by rw [h]; rfl)))
  refine ⟨fp', h2.upd hi ?_ m1 m2 (fun b hb => ?_)⟩
  · exact ⟨g2.os, g2.tape, g2.output, g2.size, fun k hk hn => g2.block k hk (fun hh => hn (row_in ho hh.symm))⟩
  · rcases m3 b hb with h | h | h
    · exact .inl h
    · cases h
    · exact .inr (by omega)
/-- the inside of element k is changed -/
theorem Sep.putIn {g n c k : Nat} (h : Sep w0 wr ts) (i : Nat) (hi : ts[i]? = some (tsl E e xs (.slice (some ⟨g, 0, none⟩) n c) fp)) (hk : xs[k]? = some x) :
    ∃ cs fx, E.own wr x cs fx ∧ fx.Nodup ∧ (∀ b, b ∈ fx → b ∈ fp ∧ b ≠ g) ∧ (∀ j u, cs[j]? = some u → wr.cell? ⟨g, k * E.size + j, none⟩ = some u) ∧
      ∀ W x' fx', Chg fx wr W → E.own W x' cs fx' → fx'.Nodup → (∀ b, b ∈ fx' → b ∈ fx) → ∃ fp', Sep w0 W (ts.set i (tsl E e (xs.set k x') (.slice (some ⟨g, 0, none⟩) n c) fp')) := by
  have h1 : SlOwn E e wr xs (.slice (some ⟨g, 0, none⟩) n c) fp := h.at_ i hi
  obtain ⟨cs, fx, k1, k2, k3, k4, k5⟩ := h1.inner (h.ndat hi) hk
  refine ⟨cs, fx, k1, k2, k3, k4, fun W x' fx' m1 m2 m3 m4 => ?_⟩
  obtain ⟨fp', p1, p2, p3⟩ := k5 W x' fx' m1 m2 m3 m4
  exact ⟨fp', h.upd hi (m1.more fun b hb => (k3 b hb).1) p1 p2 (fun b hb => .inl (p3 b hb))⟩
theorem SlOwn.store1 {g n c k : Nat} {w : World} {x' : α} {u : Value} (h : SlOwn E e w xs (.slice (some ⟨g, 0, none⟩) n c) fp) (hnd : fp.Nodup) (hE : E.size = 1) (hk : xs[k]? = some x) (hx : ∀ cs fx, E.own w x cs fx → E.own w x' [u] fx) :
    SlOwn E e (w.setCell ⟨g, k, none⟩ u) (xs.set k x') (.slice (some ⟨g, 0, none⟩) n c) fp := by
  have h1 := h.store (j := 0) (u := u) (x' := x') hnd hk (by omega) (fun cs fx ho => by
    have hl := E.olen ho
    rw [hE] at hl
    obtain ⟨a, rfl⟩ := List.length_eq_one_iff.1 hl
    exact hx _ _ ho)
  rwa [show k * E.size + 0 = k by rw [hE]; omega] at h1
/-- what block i holds -/
theorem Sep.cell {g k : Nat} {t : TypeId} {cs : List Value} {u : Value} (h : Sep w0 wr ts) (i : Nat) (hi : ts[i]? = some (tblk g t cs)) (hu : cs[k]? = some u) : wr.cell? ⟨g, k, none⟩ = some u := (show Blk wr g t cs from h.at_ i hi).cell hu
theorem Sep.frz {g k : Nat} {t : TypeId} {cs : List Value} (h : Sep w0 wr ts) (i : Nat) (hi : ts[i]? = some (tblk g t cs)) : wr.frozen? ⟨g, k, none⟩ = false := (show Blk wr g t cs from h.at_ i hi).frozen k
theorem Sep.blk {g : Nat} {t : TypeId} {cs : List Value} (h : Sep w0 wr ts) (i : Nat) (hi : ts[i]? = some (tblk g t cs)) : g < wr.heap.size ∧ w0.heap.size ≤ g := ⟨(show Blk wr g t cs from h.at_ i hi).lt, h.new g (Sep.mem hi (by simp [tblk]))⟩
theorem Sep.sl (h : Sep w0 wr ts) (i : Nat) (hi : ts[i]? = some (tsl E e xs v fp)) : SlOwn E e wr xs v fp := h.at_ i hi
theorem Sep.slnew (h : Sep w0 wr ts) (i : Nat) (hi : ts[i]? = some (tsl E e xs v fp)) : ∀ b, b ∈ fp → w0.heap.size ≤ b ∧ b < wr.heap.size := fun b hb => ⟨h.new b (Sep.mem hi hb), (show SlOwn E e wr xs v fp from h.at_ i hi).olt b hb⟩
theorem Sep.rowne {g : Nat} {t : TypeId} {cs : List Value} (h : Sep w0 wr ts) (i j : Nat) (hi : ts[i]? = some (tsl E e xs v fp)) (hj : ts[j]? = some (tblk g t cs)) (hij : i ≠ j) : some g ≠ v.ownBlock := fun hh => h.apart hi hj hij g (row_in (h.sl i hi) hh.symm) (by simp [tblk])
end
end Mm
end Go.Proofs.Ytihendiakgfpcaa
