/-
  Plain functions on counters: unwrapping. No program in sight. No conditions.
-/
import Derived.Test.YtjpmnegpkpimhaaPu
namespace Go.Proofs.Ytjpmnegpkpimhaa
namespace Pl
def unwrapTo (l : List Sample) : Nat → List Sample
  | 0 => []
  | k + 1 => unwrapTo l k ++ [⟨(sampleAt l k).At, val l 0 + rise (l.take (k + 1))⟩]
theorem unwrapTo_len (l : List Sample) : ∀ k, (unwrapTo l k).length = k
  | 0 => rfl
  | k + 1 => by rw [unwrapTo, List.length_append, unwrapTo_len l k]; rfl
def unwrap (l : List Sample) : List Sample × Bool := if counterOk l = true then (if samplesOk (unwrapTo l l.length) = true then (unwrapTo l l.length, true) else ([], false)) else ([], false)
theorem unwrapTo_next {l : List Sample} {k : Nat} {x y : Sample} (hx : l[k]? = some x) (hy : l[0]? = some y) : unwrapTo l (k + 1) = unwrapTo l k ++ [⟨x.At, y.Value + rise (l.take (k + 1))⟩] := by
  rw [unwrapTo, sampleAt_of hx]; unfold val; rw [sampleAt_of hy]
/-- the copy, of which k are done -/
def halfway (l : List Sample) (k : Nat) : List Sample := unwrapTo l k ++ l.drop k
theorem halfway_zero (l : List Sample) : halfway l 0 = l := by simp [halfway, unwrapTo]
theorem halfway_end {l : List Sample} {k : Nat} (h : l.length ≤ k) : halfway l k = unwrapTo l k := by
  unfold halfway; rw [List.drop_eq_nil_of_le h, List.append_nil]
theorem halfway_get {l : List Sample} {k : Nat} {x : Sample} (hx : l[k]? = some x) : (halfway l k)[k]? = some x := by
  unfold halfway
  rw [List.getElem?_append_right (by rw [unwrapTo_len]; exact Nat.le_refl _), unwrapTo_len, Nat.sub_self, List.getElem?_drop, Nat.add_zero]
  exact hx
theorem halfway_set {l : List Sample} {k : Nat} {x y : Sample} (hx : l[k]? = some x) (hy : l[0]? = some y) : (halfway l k).set k ⟨x.At, y.Value + rise (l.take (k + 1))⟩ = halfway l (k + 1) := by
  have hk := (List.getElem?_eq_some_iff.1 hx).1
  unfold halfway
  rw [List.set_append_right _ _ (by rw [unwrapTo_len]; exact Nat.le_refl _), unwrapTo_len, Nat.sub_self, unwrapTo_next hx hy, List.drop_eq_getElem_cons hk, List.set_cons_zero, List.append_assoc]
  rfl
/-- windows -/
def wnew (size : Int) (x : Sample) : Window := ⟨x.At / size * size, x.Value, x.Value, 1, 0⟩
def wadd (v : Window) (prev : Int) (x : Sample) : Window := ⟨v.From, v.First, x.Value, v.Count + 1, v.Rise + step prev x.Value⟩
def windTo (size : Int) (l : List Sample) : Nat → List Window
  | 0 => []
  | k + 1 => match (windTo size l k).getLast? with
    | none => windTo size l k ++ [wnew size (sampleAt l k)]
    | some v => if v.From = (sampleAt l k).At / size * size then (windTo size l k).dropLast ++ [wadd v (val l (k - 1)) (sampleAt l k)] else windTo size l k ++ [wnew size (sampleAt l k)]
def windowsOf (l : List Sample) (size : Int) : List Window × Bool := if (counterOk l && isIn size 1 1000000) = true then (windTo size l l.length, true) else ([], false)
section
variable {size : Int} {l : List Sample} {k : Nat} {x : Sample}
theorem windTo_none (hx : l[k]? = some x) (h : windTo size l k = []) : windTo size l (k + 1) = windTo size l k ++ [wnew size x] := by
  rw [windTo, h, sampleAt_of hx]; rfl
theorem windTo_other {v : Window} (hx : l[k]? = some x) (h : (windTo size l k).getLast? = some v) (hf : v.From ≠ x.At / size * size) : windTo size l (k + 1) = windTo size l k ++ [wnew size x] := by
  rw [windTo, h, sampleAt_of hx]; exact if_neg hf
theorem windTo_same {v : Window} {y : Sample} (hx : l[k]? = some x) (hy : l[k - 1]? = some y) (h : (windTo size l k).getLast? = some v) (hf : v.From = x.At / size * size) : windTo size l (k + 1) = (windTo size l k).dropLast ++ [wadd v y.Value x] := by
  rw [windTo, h, sampleAt_of hx, val_of hy]; exact if_pos hf
theorem windTo_pos : ∀ k, 0 < k → windTo size l k ≠ []
  | 0, h => by omega
  | k + 1, _ => by
    rw [windTo]
    split
    · simp
    · split <;> simp
theorem windTo_len : ∀ k, (windTo size l k).length ≤ k
  | 0 => by simp [windTo]
  | k + 1 => by
    have := windTo_len k
    rw [windTo]
    split
    · simp; omega
    · split <;> simp <;> omega
theorem windTo_last : ∀ (k : Nat) {v : Window}, (windTo size l k).getLast? = some v → 0 < k ∧ v.From = (sampleAt l (k - 1)).At / size * size
  | 0, v, h => by simp [windTo] at h
  | k + 1, v, h => by
    refine ⟨by omega, ?_⟩
    rw [windTo] at h
    split at h
    · simp at h; subst h; rfl
    · split at h
      · rename_i hf
        simp at h; subst h
        exact hf
      · simp at h; subst h; rfl
theorem windTo_bd (ht : Tame l) : ∀ (k : Nat), ∀ v ∈ windTo size l k, 0 ≤ v.Rise ∧ v.Rise ≤ 1000000000 * k ∧ 0 ≤ v.Count ∧ v.Count ≤ k ∧ 0 ≤ v.First ∧ v.First ≤ 1000000000 ∧ 0 ≤ v.Last ∧ v.Last ≤ 1000000000
  | 0, v, hv => by simp [windTo] at hv
  | k + 1, v, hv => by
    have hs := val_bd ht k
    have hp := val_bd ht (k - 1)
    have hst := step_bd hp.1 hs.1 hs.2
    have hnew : ∀ v, v = wnew size (sampleAt l k) → 0 ≤ v.Rise ∧ v.Rise ≤ 1000000000 * (k + 1 : Nat) ∧ 0 ≤ v.Count ∧ v.Count ≤ (k + 1 : Nat) ∧ 0 ≤ v.First ∧ v.First ≤ 1000000000 ∧ 0 ≤ v.Last ∧ v.Last ≤ 1000000000 := by
      rintro v rfl
      unfold val at hs
      simp only [wnew]
      omega
    have hold : ∀ v, v ∈ windTo size l k → 0 ≤ v.Rise ∧ v.Rise ≤ 1000000000 * (k + 1 : Nat) ∧ 0 ≤ v.Count ∧ v.Count ≤ (k + 1 : Nat) ∧ 0 ≤ v.First ∧ v.First ≤ 1000000000 ∧ 0 ≤ v.Last ∧ v.Last ≤ 1000000000 := fun v hv => by
      have := windTo_bd ht k v hv
      omega
    rw [windTo] at hv
    split at hv
    · rcases List.mem_append.1 hv with h | h
      · exact hold v h
      · exact hnew v (by simpa using h)
    · rename_i u hu
      split at hv
      · rcases List.mem_append.1 hv with h | h
        · exact hold v (by rw [List.dropLast_eq_take] at h; exact List.mem_of_mem_take h)
        · have hb := windTo_bd ht k u (List.mem_of_getLast? hu)
          have : v = wadd u (val l (k - 1)) (sampleAt l k) := by simpa using h
          subst this
          unfold val at hs
          simp only [wadd]
          unfold val at hst ⊢
          omega
      · rcases List.mem_append.1 hv with h | h
        · exact hold v h
        · exact hnew v (by simpa using h)
theorem dropLast_set {α : Type} {l : List α} {n : Nat} (hn : l.length = n) (h : 0 < n) (x : α) : l.set (n - 1) x = l.dropLast ++ [x] := by
  subst hn
  rw [List.set_eq_take_append_cons_drop, if_pos (by omega), List.dropLast_eq_take, show l.length - 1 + 1 = l.length by omega, List.drop_length]
theorem last_get {α : Type} {l : List α} {n : Nat} {v : α} (hn : l.length = n) (h : l.getLast? = some v) : l[n - 1]? = some v := by
  subst hn
  rw [← h, List.getLast?_eq_getElem?]
end
/-- a group of m samples from j on, all in one window, becomes one window -/
def group (size : Int) (l : List Sample) (j m : Nat) : Window := ⟨(sampleAt l j).At / size * size, val l j, val l (j + m - 1), m, rise ((l.drop j).take m)⟩
theorem riseTo_take {l : List Sample} {j : Nat} : ∀ (i : Nat), i ≤ j → riseTo (l.take j) i = riseTo l i
  | 0, _ => rfl
  | i + 1, h => by
    rw [riseTo, riseTo, riseTo_take i (by omega)]
    have hv : ∀ a, a < j → val (l.take j) a = val l a := fun a ha => by
      unfold val sampleAt
      rw [List.getD_eq_getElem?_getD, List.getD_eq_getElem?_getD, List.getElem?_take, if_pos ha]
    split
    · rfl
    · rw [hv (i - 1) (by omega), hv i (by omega)]
theorem rise_take {l : List Sample} {m : Nat} (h : m ≤ l.length) : rise (l.take m) = riseTo l m := by
  unfold rise
  rw [List.length_take, Nat.min_eq_left h, riseTo_take m (Nat.le_refl _)]
theorem val_drop (l : List Sample) (j a : Nat) : val (l.drop j) a = val l (j + a) := by
  unfold val sampleAt
  rw [List.getD_eq_getElem?_getD, List.getD_eq_getElem?_getD, List.getElem?_drop]
theorem windTo_group {size : Int} {l : List Sample} {j : Nat} (hst : windTo size l j = [] ∨ ∃ v, (windTo size l j).getLast? = some v ∧ v.From ≠ (sampleAt l j).At / size * size) :
    ∀ (m : Nat), j + (m + 1) ≤ l.length → (∀ i, i < m + 1 → (sampleAt l (j + i)).At / size = (sampleAt l j).At / size) → windTo size l (j + (m + 1)) = windTo size l j ++ [group size l j (m + 1)]
  | 0, hl, hq => by
    have hx : l[j]? = some l[j] := List.getElem?_eq_getElem (by omega)
    have hg : group size l j (0 + 1) = wnew size l[j] := by
      unfold group wnew
      rw [sampleAt_of hx, val_of hx, show j + (0 + 1) - 1 = j by omega, val_of hx]
      congr 1
      rw [rise_take (by rw [List.length_drop]; omega)]; rfl
    rw [hg]
    rcases hst with h | ⟨v, hv, hf⟩
    · exact windTo_none hx h
    · exact windTo_other hx hv (by rw [sampleAt_of hx] at hf; exact hf)
  | m + 1, hl, hq => by
    have ih := windTo_group hst m (by omega) (fun i hi => hq i (by omega))
    have hx : l[j + (m + 1)]? = some l[j + (m + 1)] := List.getElem?_eq_getElem (by omega)
    have hy : l[j + (m + 1) - 1]? = some l[j + m] := by rw [show j + (m + 1) - 1 = j + m by omega]; exact List.getElem?_eq_getElem (by omega)
    have hlast : (windTo size l (j + (m + 1))).getLast? = some (group size l j (m + 1)) := by rw [ih]; simp
    have hfrom : (group size l j (m + 1)).From = l[j + (m + 1)].At / size * size := by
      have := hq (m + 1) (by omega)
      rw [sampleAt_of hx] at this
      rw [this]; rfl
    rw [show j + (m + 1 + 1) = j + (m + 1) + 1 by omega, windTo_same hx hy hlast hfrom, ih]
    simp only [List.dropLast_concat]
    congr 2
    unfold group wadd
    rw [show j + (m + 1 + 1) - 1 = j + (m + 1) by omega, val_of hx]
    congr 1
    rw [rise_take (by rw [List.length_drop]; omega), rise_take (by rw [List.length_drop]; omega)]
    conv => rhs; rw [riseTo]
    rw [if_neg (by omega), val_drop, val_drop, Nat.add_sub_cancel, val_of hx, val_of (show l[j + m]? = some l[j + m] from List.getElem?_eq_getElem (by omega))]
theorem quo_eq {a b size : Int} (hs : 1 ≤ size) (h : a * size = b * size) : a = b := Int.eq_of_mul_eq_mul_right (by omega) h
def gapAt (size : Int) (l : List Sample) (j : Nat) : Prop := windTo size l j = [] ∨ ∃ v, (windTo size l j).getLast? = some v ∧ v.From ≠ (sampleAt l j).At / size * size
theorem gap_next {size : Int} {l : List Sample} {j m : Nat} (hs : 1 ≤ size) (hw : windTo size l (j + m) = windTo size l j ++ [group size l j m]) (hq : (sampleAt l (j + m)).At / size ≠ (sampleAt l j).At / size) : gapAt size l (j + m) := by
  refine .inr ⟨group size l j m, by rw [hw]; simp, fun h => hq ?_⟩
  exact (quo_eq hs h).symm
theorem sampleAt_drop (l : List Sample) (j i : Nat) : sampleAt (l.drop j) i = sampleAt l (j + i) := by
  unfold sampleAt
  rw [List.getD_eq_getElem?_getD, List.getD_eq_getElem?_getD, List.getElem?_drop]
theorem group_eq {size : Int} {l : List Sample} {j m : Nat} {x y : Sample} (hx : (l.drop j)[0]? = some x) (hy : (l.drop j)[m - 1]? = some y) (hm : 0 < m) : group size l j m = ⟨x.At / size * size, x.Value, y.Value, m, rise ((l.drop j).take m)⟩ := by
  unfold group
  have h1 := sampleAt_of hx
  have h2 := sampleAt_of hy
  rw [sampleAt_drop] at h1 h2
  unfold val
  rw [Nat.add_zero] at h1
  rw [h1, show j + m - 1 = j + (m - 1) by omega, h2]
end Pl
end Go.Proofs.Ytjpmnegpkpimhaa
