/-
  Plain functions on counters: resets, rise, rate. No program in sight. No conditions.
-/
import Derived.Test.YtjpmnegpkpimhaaPs
namespace Go.Proofs.Ytjpmnegpkpimhaa
namespace Pl
def val (l : List Sample) (i : Nat) : Int := (sampleAt l i).Value
def resetB (l : List Sample) (i : Nat) : Bool := decide (0 < i) && decide (val l i < val l (i - 1))
def resetsTo (l : List Sample) : Nat → Int
  | 0 => 0
  | k + 1 => resetsTo l k + if resetB l k = true then 1 else 0
def resets (l : List Sample) : Int × Bool := if counterOk l = true then (resetsTo l l.length, true) else (0, false)
theorem resetsTo_bd (l : List Sample) : ∀ k, 0 ≤ resetsTo l k ∧ resetsTo l k ≤ k
  | 0 => by simp [resetsTo]
  | k + 1 => by
    have := resetsTo_bd l k
    unfold resetsTo
    split <;> omega
theorem resetsTo_yes {l : List Sample} {k : Nat} (h : resetB l k = true) : resetsTo l (k + 1) = resetsTo l k + 1 := by
  rw [resetsTo, if_pos h]
theorem resetsTo_no {l : List Sample} {k : Nat} (h : resetB l k = false) : resetsTo l (k + 1) = resetsTo l k := by
  rw [resetsTo, h]; simp
theorem resetB_zero (l : List Sample) : resetB l 0 = false := rfl
theorem resetB_eq {l : List Sample} {k : Nat} {x y : Sample} (h : l[k]? = some x) (h' : l[k - 1]? = some y) (hk : 0 < k) : resetB l k = decide (x.Value < y.Value) := by
  unfold resetB val; rw [sampleAt_of h, sampleAt_of h']; simp [hk]
theorem counterOk_len {l : List Sample} (h : counterOk l = true) : l.length ≤ 40 := by
  unfold counterOk samplesOk at h; simp at h; omega

/-- at most 40 samples, of values that are not negative and small -/
def Tame (l : List Sample) : Prop := l.length ≤ 40 ∧ ∀ x ∈ l, 0 ≤ x.Value ∧ x.Value ≤ 1000000000
theorem tame_of {l : List Sample} (h : counterOk l = true) : Tame l := by
  refine ⟨counterOk_len h, fun x hx => ?_⟩
  obtain ⟨i, hi, rfl⟩ := List.mem_iff_getElem.1 hx
  unfold counterOk samplesOk at h
  simp only [Bool.and_eq_true, allB_iff] at h
  have h1 := h.1.1 i hi
  have h2 := h.2 i hi
  unfold sampleGood sampleOk isIn at h1
  rw [sampleAt_of (List.getElem?_eq_getElem hi)] at h1 h2
  simp at h1 h2
  omega
theorem Tame.take {l : List Sample} (h : Tame l) (k : Nat) : Tame (l.take k) := ⟨by rw [List.length_take]; have := h.1; omega, fun x hx => h.2 x (List.mem_of_mem_take hx)⟩
theorem Tame.drop {l : List Sample} (h : Tame l) (k : Nat) : Tame (l.drop k) := ⟨by rw [List.length_drop]; have := h.1; omega, fun x hx => h.2 x (List.mem_of_mem_drop hx)⟩
theorem Tame.at_ {l : List Sample} (h : Tame l) {k : Nat} {x : Sample} (hx : l[k]? = some x) : 0 ≤ x.Value ∧ x.Value ≤ 1000000000 := h.2 x (List.mem_of_getElem? hx)

def step (a b : Int) : Int := if b < a then b else b - a
def riseTo (l : List Sample) : Nat → Int
  | 0 => 0
  | k + 1 => riseTo l k + if k = 0 then 0 else step (val l (k - 1)) (val l k)
def rise (l : List Sample) : Int := riseTo l l.length
theorem val_bd {l : List Sample} (h : Tame l) (k : Nat) : 0 ≤ val l k ∧ val l k ≤ 1000000000 := by
  unfold val
  by_cases hk : k < l.length
  · rw [sampleAt_of (List.getElem?_eq_getElem hk)]
    exact h.at_ (List.getElem?_eq_getElem hk)
  · unfold sampleAt
    rw [List.getD_eq_getElem?_getD, List.getElem?_eq_none (by omega)]
    simp
theorem step_bd {a b : Int} (h1 : 0 ≤ a) (h2 : 0 ≤ b) (h3 : b ≤ 1000000000) : 0 ≤ step a b ∧ step a b ≤ 1000000000 := by
  unfold step; split <;> omega
theorem riseTo_bd {l : List Sample} (h : Tame l) : ∀ k, 0 ≤ riseTo l k ∧ riseTo l k ≤ 1000000000 * k
  | 0 => by simp [riseTo]
  | k + 1 => by
    have h0 := riseTo_bd h k
    have h1 := val_bd h (k - 1)
    have h2 := val_bd h k
    have h3 := step_bd h1.1 h2.1 h2.2
    unfold riseTo
    split <;> omega
theorem riseTo_next {l : List Sample} {k : Nat} {x y : Sample} (h : l[k]? = some x) (h' : l[k - 1]? = some y) (hk : 0 < k) : riseTo l (k + 1) = riseTo l k + step y.Value x.Value := by
  rw [riseTo, if_neg (by omega)]; unfold val; rw [sampleAt_of h, sampleAt_of h']
theorem riseTo_one (l : List Sample) : riseTo l 1 = 0 := rfl
theorem rise_small {l : List Sample} (h : l.length ≤ 1) : rise l = 0 := by
  unfold rise
  obtain h | h : l.length = 0 ∨ l.length = 1 := by omega
  all_goals rw [h]; rfl
def riseOf (l : List Sample) : Int × Bool := if counterOk l = true then (rise l, true) else (0, false)
theorem rise_next_reset {l : List Sample} {k : Nat} {x y : Sample} (h : l[k]? = some x) (h' : l[k - 1]? = some y) (hk : 0 < k) (hr : resetB l k = true) : riseTo l (k + 1) = riseTo l k + x.Value := by
  rw [riseTo_next h h' hk]
  rw [resetB_eq h h' hk] at hr
  unfold step
  rw [if_pos (by simpa using hr)]
theorem rise_next_up {l : List Sample} {k : Nat} {x y : Sample} (h : l[k]? = some x) (h' : l[k - 1]? = some y) (hk : 0 < k) (hr : resetB l k = false) : riseTo l (k + 1) = riseTo l k + x.Value - y.Value := by
  rw [riseTo_next h h' hk]
  rw [resetB_eq h h' hk] at hr
  unfold step
  rw [if_neg (by simpa using hr)]
  omega
theorem rise_bd {l : List Sample} (h : Tame l) : 0 ≤ rise l ∧ rise l ≤ 40000000000 := by
  have h1 := riseTo_bd h l.length
  have := h.1
  unfold rise
  omega
theorem rise_end {l : List Sample} {n k : Nat} (hn : l.length = n) (hk : k = 0 ∨ k < n) (hlt : ¬ k + 1 < n) : riseTo l (k + 1) = rise l := by
  unfold rise
  obtain h | h : l.length = k + 1 ∨ l.length = k := by omega
  · rw [h]
  · have h0 : k = 0 := by omega
    rw [h, h0]; rfl
theorem counter_at {l : List Sample} (h : counterOk l = true) {k : Nat} {x : Sample} (hx : l[k]? = some x) : 0 ≤ x.At ∧ x.At ≤ 1000000000 ∧ 0 ≤ x.Value ∧ x.Value ≤ 1000000000 := by
  have hk := (List.getElem?_eq_some_iff.1 hx).1
  unfold counterOk samplesOk at h
  simp only [Bool.and_eq_true, allB_iff] at h
  have h1 := h.1.1 k hk
  have h2 := h.2 k hk
  unfold sampleGood sampleOk isIn at h1
  rw [sampleAt_of hx] at h1 h2
  simp at h1 h2
  omega
theorem counter_lt {l : List Sample} (h : counterOk l = true) {k : Nat} {x y : Sample} (hx : l[k]? = some x) (hy : l[k + 1]? = some y) : x.At < y.At := by
  have hk := (List.getElem?_eq_some_iff.1 hy).1
  unfold counterOk samplesOk at h
  simp only [Bool.and_eq_true, allB_iff] at h
  have h1 := h.1.1 (k + 1) hk
  unfold sampleGood at h1
  rw [Nat.add_sub_cancel, sampleAt_of hx, sampleAt_of hy] at h1
  simp at h1
  omega
theorem counter_le {l : List Sample} (h : counterOk l = true) {i : Nat} {x : Sample} (hx : l[i]? = some x) : ∀ (d : Nat) {y : Sample}, l[i + d]? = some y → x.At + d ≤ y.At
  | 0, y, hy => by
    rw [Nat.add_zero, hx] at hy; injection hy with hy; subst hy; simp
  | d + 1, y, hy => by
    have hk := (List.getElem?_eq_some_iff.1 hy).1
    have hz : l[i + d]? = some l[i + d] := List.getElem?_eq_getElem (by omega)
    have h1 := counter_le h hx d hz
    have h2 := counter_lt h hz hy
    push_cast
    omega
def dropB (l : List Sample) (i : Nat) : Bool := decide (0 < i) && decide (i + 1 < l.length) && decide (val l (i - 1) ≤ val l i) && decide (val l i ≤ val l (i + 1))
def thinTo (l : List Sample) : Nat → List Sample
  | 0 => []
  | k + 1 => thinTo l k ++ if dropB l k = true then [] else [sampleAt l k]
def thinOut (l : List Sample) : List Sample × Bool := if counterOk l = true then (thinTo l l.length, true) else ([], false)
theorem thinTo_len (l : List Sample) : ∀ k, (thinTo l k).length ≤ k
  | 0 => by simp [thinTo]
  | k + 1 => by
    have := thinTo_len l k
    unfold thinTo
    split <;> simp <;> omega
theorem thinTo_yes {l : List Sample} {k : Nat} (h : dropB l k = true) : thinTo l (k + 1) = thinTo l k := by
  rw [thinTo, if_pos h, List.append_nil]
theorem thinTo_no {l : List Sample} {k : Nat} {x : Sample} (h : dropB l k = false) (hx : l[k]? = some x) : thinTo l (k + 1) = thinTo l k ++ [x] := by
  rw [thinTo, h, sampleAt_of hx]; simp
theorem val_of {l : List Sample} {k : Nat} {x : Sample} (hx : l[k]? = some x) : val l k = x.Value := by unfold val; rw [sampleAt_of hx]
def advF (l : List Sample) (at_ : Int) : Nat → Nat → Nat
  | 0, k => k
  | f + 1, k => if k + 1 < l.length ∧ (sampleAt l (k + 1)).At ≤ at_ then advF l at_ f (k + 1) else k
def adv (l : List Sample) (at_ : Int) (k : Nat) : Nat := advF l at_ (l.length - k) k
theorem adv_go {l : List Sample} {at_ : Int} {k : Nat} {z : Sample} (hz : l[k + 1]? = some z) (h : z.At ≤ at_) : adv l at_ k = adv l at_ (k + 1) := by
  have hk := (List.getElem?_eq_some_iff.1 hz).1
  unfold adv
  obtain ⟨f, hf⟩ : ∃ f, l.length - k = f + 1 := ⟨l.length - k - 1, by omega⟩
  rw [hf, show l.length - (k + 1) = f by omega]
  conv => lhs; unfold advF
  rw [if_pos ⟨hk, by rw [sampleAt_of hz]; exact h⟩]
theorem adv_end {l : List Sample} {at_ : Int} {k : Nat} (h : ¬ k + 1 < l.length) : adv l at_ k = k := by
  unfold adv
  cases hf : l.length - k with
  | zero => rfl
  | succ f => unfold advF; rw [if_neg (fun hh => h hh.1)]
theorem adv_stop {l : List Sample} {at_ : Int} {k : Nat} {z : Sample} (hz : l[k + 1]? = some z) (h : ¬ z.At ≤ at_) : adv l at_ k = k := by
  unfold adv
  cases hf : l.length - k with
  | zero => rfl
  | succ f => unfold advF; rw [if_neg (fun hh => h (by rw [sampleAt_of hz] at hh; exact hh.2))]
/-- where the reading stands ahead of step j -/
def fillK (l : List Sample) (a0 step : Int) : Nat → Nat
  | 0 => 0
  | j + 1 => adv l (a0 + j * step) (fillK l a0 step j)
def fillTo (l : List Sample) (a0 step : Int) : Nat → List Sample
  | 0 => []
  | j + 1 => fillTo l a0 step j ++ [⟨a0 + j * step, val l (fillK l a0 step (j + 1))⟩]
theorem fillTo_len (l : List Sample) (a0 step : Int) : ∀ j, (fillTo l a0 step j).length = j
  | 0 => rfl
  | j + 1 => by rw [fillTo, List.length_append, fillTo_len l a0 step j]; rfl
def fillAt (l : List Sample) (step : Int) : Int := ((sampleAt l 0).At + step - 1) / step * step
def fillMany (a0 last step : Int) : Nat := if a0 ≤ last then ((last - a0) / step + 1).toNat else 0
def fillGaps (l : List Sample) (step : Int) : List Sample × Bool :=
  if (counterOk l && isIn step 1 1000000) = true then
    if l.length = 0 then ([], true)
    else if fillAt l step + 40 * step ≤ (sampleAt l (l.length - 1)).At then ([], false)
    else (fillTo l (fillAt l step) step (fillMany (fillAt l step) (sampleAt l (l.length - 1)).At step), true)
  else ([], false)
theorem fillMany_eq {a0 last step : Int} (hs : 0 < step) {j : Nat} (h1 : last < a0 + j * step) (h2 : j = 0 ∨ a0 + ((j : Int) - 1) * step ≤ last) : fillMany a0 last step = j := by
  unfold fillMany
  rcases h2 with rfl | h2
  · rw [if_neg (by simp at h1; omega)]
  · have e : ((j : Int) - 1) * step = j * step - step := by rw [Int.sub_mul, Int.one_mul]
    by_cases hj : j = 0
    · subst hj
      rw [if_neg (by simp at h1; omega)]
    · have hj0 : 0 ≤ ((j : Int) - 1) * step := Int.mul_nonneg (by omega) (by omega)
      rw [if_pos (by omega)]
      have h3 : (j : Int) - 1 ≤ (last - a0) / step := (Int.le_ediv_iff_mul_le hs).2 (by omega)
      have h4 : (last - a0) / step < j := (Int.ediv_lt_iff_lt_mul hs).2 (by omega)
      omega
theorem fill_over {a0 last step : Int} (hs : 0 < step) (h : a0 ≤ last) : (last - a0) / step + 1 > 40 ↔ a0 + 40 * step ≤ last := by
  constructor
  · intro h1
    have h2 : (40 : Int) ≤ (last - a0) / step := by omega
    have := (Int.le_ediv_iff_mul_le hs).1 h2
    omega
  · intro h1
    have : (40 : Int) ≤ (last - a0) / step := (Int.le_ediv_iff_mul_le hs).2 (by omega)
    omega
def rateOf (l : List Sample) (per : Int) : Int × Bool := if (counterOk l && isIn per 1 1000000 && decide (2 ≤ l.length)) = true then ((rise l * per) / ((sampleAt l (l.length - 1)).At - (sampleAt l 0).At), true) else (0, false)
end Pl
end Go.Proofs.Ytjpmnegpkpimhaa
