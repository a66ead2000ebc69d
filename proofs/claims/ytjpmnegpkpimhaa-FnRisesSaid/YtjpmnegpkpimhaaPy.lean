/-
  Plain laws on counters: rises of parts, of the unwrapped, of the thinned. No program in sight. No conditions.
-/
import Derived.Test.YtjpmnegpkpimhaaPw
namespace Go.Proofs.Ytjpmnegpkpimhaa
namespace Pl
theorem counter_iff {l : List Sample} : counterOk l = true ↔ l.length ≤ 40 ∧ (∀ (k : Nat) (x : Sample), l[k]? = some x → 0 ≤ x.At ∧ x.At ≤ 1000000000 ∧ 0 ≤ x.Value ∧ x.Value ≤ 1000000000) ∧ (∀ (k : Nat) (x y : Sample), l[k]? = some x → l[k + 1]? = some y → x.At < y.At) := by
  refine ⟨fun h => ⟨counterOk_len h, fun k x hx => counter_at h hx, fun k x y hx hy => counter_lt h hx hy⟩, fun ⟨h1, h2, h3⟩ => ?_⟩
  unfold counterOk samplesOk
  simp only [Bool.and_eq_true, allB_iff, decide_eq_true_eq]
  refine ⟨⟨fun i hi => ?_, by omega⟩, fun i hi => ?_⟩
  · have hx := List.getElem?_eq_getElem hi
    have hb := h2 i _ hx
    unfold sampleGood sampleOk isIn
    rw [sampleAt_of hx]
    simp only [Bool.and_eq_true, Bool.or_eq_true, decide_eq_true_eq]
    refine ⟨by omega, ?_⟩
    by_cases h0 : i = 0
    · exact .inl h0
    · have hy := List.getElem?_eq_getElem (show i - 1 < l.length by omega)
      rw [sampleAt_of hy]
      exact .inr (h3 (i - 1) _ _ hy (by rw [show i - 1 + 1 = i by omega]; exact hx))
  · have hx := List.getElem?_eq_getElem hi
    have hb := h2 i _ hx
    rw [sampleAt_of hx]
    simp
    omega
theorem counter_take {l : List Sample} (h : counterOk l = true) (k : Nat) : counterOk (l.take k) = true := by
  rw [counter_iff] at h ⊢
  have hg : ∀ (i : Nat) (x : Sample), (l.take k)[i]? = some x → l[i]? = some x := fun i x hx => by
    rw [List.getElem?_take] at hx
    split at hx
    · exact hx
    · cases hx
  exact ⟨by rw [List.length_take]; omega, fun i x hx => h.2.1 i x (hg i x hx), fun i x y hx hy => h.2.2 i x y (hg i x hx) (hg _ y hy)⟩
theorem counter_drop {l : List Sample} (h : counterOk l = true) (k : Nat) : counterOk (l.drop k) = true := by
  rw [counter_iff] at h ⊢
  refine ⟨by rw [List.length_drop]; omega, fun i x hx => ?_, fun i x y hx hy => ?_⟩
  · rw [List.getElem?_drop] at hx; exact h.2.1 _ x hx
  · rw [List.getElem?_drop] at hx hy; exact h.2.2 _ x y hx hy
theorem riseTo_drop (l : List Sample) (k : Nat) : ∀ m, riseTo l (k + 1 + m) = riseTo l (k + 1) + riseTo (l.drop k) (m + 1)
  | 0 => by rw [riseTo_one]; simp
  | m + 1 => by
    rw [show k + 1 + (m + 1) = (k + 1 + m) + 1 by omega, riseTo, riseTo_drop l k m, riseTo.eq_def (l.drop k) (m + 1 + 1)]
    simp only
    rw [if_neg (by omega), if_neg (by omega), val_drop, val_drop, show k + (m + 1 - 1) = k + 1 + m - 1 by omega, show k + (m + 1) = k + 1 + m by omega]
    omega
theorem rise_parts {l : List Sample} {k : Nat} (hk : k < l.length) : rise (l.take (k + 1)) + rise (l.drop k) = rise l := by
  rw [rise_take (by omega)]
  unfold rise
  rw [List.length_drop]
  have := riseTo_drop l k (l.length - k - 1)
  rw [show k + 1 + (l.length - k - 1) = l.length by omega, show l.length - k - 1 + 1 = l.length - k by omega] at this
  omega
theorem rise_flat {l : List Sample} : ∀ k, resetsTo l (k + 1) = 0 → riseTo l (k + 1) = val l k - val l 0
  | 0, _ => by rw [riseTo_one]; omega
  | k + 1, h => by
    rw [resetsTo] at h
    have hb := resetsTo_bd l (k + 1)
    have h1 : resetsTo l (k + 1) = 0 := by split at h <;> omega
    have h2 : resetB l (k + 1) = false := by
      cases hr : resetB l (k + 1)
      · rfl
      · rw [hr] at h; simp at h; omega
    have ih := rise_flat k h1
    rw [riseTo, ih, if_neg (by omega)]
    unfold resetB at h2
    rw [show k + 1 - 1 = k by omega] at h2 ⊢
    simp at h2
    unfold step
    rw [if_neg (by omega)]
    omega
theorem rise_noreset {l : List Sample} (h0 : 0 < l.length) (h : resetsTo l l.length = 0) : rise l = val l (l.length - 1) - val l 0 := by
  have := rise_flat (l := l) (l.length - 1) (by rw [show l.length - 1 + 1 = l.length by omega]; exact h)
  rw [show l.length - 1 + 1 = l.length by omega] at this
  exact this
/-- unwrapped -/
theorem unwrapTo_get {l : List Sample} : ∀ {n k : Nat}, k < n → (unwrapTo l n)[k]? = some ⟨(sampleAt l k).At, val l 0 + rise (l.take (k + 1))⟩
  | n + 1, k, hk => by
    rw [unwrapTo]
    by_cases h : k < n
    · rw [List.getElem?_append_left (by rw [unwrapTo_len]; exact h)]; exact unwrapTo_get h
    · have : k = n := by omega
      subst this
      rw [List.getElem?_append_right (by rw [unwrapTo_len]; exact Nat.le_refl _), unwrapTo_len, Nat.sub_self]; rfl
theorem unwrap_val {l : List Sample} {k : Nat} (hk : k < l.length) : val (unwrapTo l l.length) k = val l 0 + riseTo l (k + 1) := by
  rw [val_of (unwrapTo_get hk), rise_take (by omega)]
theorem step_nn {a b : Int} (ha : 0 ≤ a) (hb : 0 ≤ b) : 0 ≤ step a b := by unfold step; split <;> omega
theorem unwrap_rise {l : List Sample} (hc : counterOk l = true) : ∀ k, k ≤ l.length → riseTo (unwrapTo l l.length) k = riseTo l k ∧ resetsTo (unwrapTo l l.length) k = 0
  | 0, _ => ⟨rfl, rfl⟩
  | k + 1, hk => by
    have ih := unwrap_rise hc k (by omega)
    have ht := tame_of hc
    by_cases h0 : k = 0
    · subst h0; exact ⟨rfl, rfl⟩
    have hv := unwrap_val (l := l) (k := k) (by omega)
    have hp := unwrap_val (l := l) (k := k - 1) (by omega)
    rw [show k - 1 + 1 = k by omega] at hp
    have hs : riseTo l (k + 1) = riseTo l k + step (val l (k - 1)) (val l k) := by rw [riseTo, if_neg h0]
    have hnn := step_nn (val_bd ht (k - 1)).1 (val_bd ht k).1
    constructor
    · rw [riseTo, ih.1, if_neg h0, hv, hp, hs]
      have : step (val l 0 + riseTo l k) (val l 0 + (riseTo l k + step (val l (k - 1)) (val l k))) = step (val l (k - 1)) (val l k) := by
        rw [step.eq_def (val l 0 + riseTo l k)]
        rw [if_neg (by omega)]
        omega
      rw [this]
    · rw [resetsTo, ih.2]
      have : resetB (unwrapTo l l.length) k = false := by
        unfold resetB
        rw [hv, hp, hs]
        simp
        omega
      rw [this]; rfl
theorem unwrap_counter {l : List Sample} (hc : counterOk l = true) (hs : samplesOk (unwrapTo l l.length) = true) : counterOk (unwrapTo l l.length) = true := by
  unfold counterOk
  rw [hs, Bool.true_and, allB_iff]
  intro i hi
  rw [unwrapTo_len] at hi
  have hv := unwrap_val hi
  have h1 := (val_bd (tame_of hc) 0).1
  have h2 := (riseTo_bd (tame_of hc) (i + 1)).1
  unfold val at hv h1
  rw [hv]
  simp
  omega
/-- thinned -/
structure ThinOk (l : List Sample) (k : Nat) (T : List Sample) (z : Sample) : Prop where
  mem : ∀ x ∈ T, x ∈ l
  srt : ∀ (i : Nat) x y, T[i]? = some x → T[i + 1]? = some y → x.At < y.At
  last : T.getLast? = some z
  at_ : z.At ≤ (sampleAt l (k - 1)).At
  val : z.Value ≤ val l (k - 1)
  free : z.Value = Pl.val l (k - 1) ∨ (k < l.length ∧ Pl.val l (k - 1) ≤ Pl.val l k)
  rise : riseTo T T.length + (Pl.val l (k - 1) - z.Value) = riseTo l k
  resets : resetsTo T T.length = resetsTo l k
theorem val_app {T V : List Sample} {i : Nat} (h : i < T.length) : val (T ++ V) i = val T i := by
  unfold val sampleAt; rw [List.getD_eq_getElem?_getD, List.getD_eq_getElem?_getD, List.getElem?_append_left h]
theorem riseTo_app {T V : List Sample} : ∀ k, k ≤ T.length → riseTo (T ++ V) k = riseTo T k
  | 0, _ => rfl
  | k + 1, h => by rw [riseTo, riseTo, riseTo_app k (by omega), val_app (by omega), val_app (by omega)]
theorem resetsTo_app {T V : List Sample} : ∀ k, k ≤ T.length → resetsTo (T ++ V) k = resetsTo T k
  | 0, _ => rfl
  | k + 1, h => by
    have : resetB (T ++ V) k = resetB T k := by unfold resetB; rw [val_app (by omega), val_app (by omega)]
    rw [resetsTo, resetsTo, resetsTo_app k (by omega), this]
theorem val_end {T : List Sample} {x : Sample} : val (T ++ [x]) T.length = x.Value := val_of (by simp)
theorem val_last {T : List Sample} {z : Sample} (h : T.getLast? = some z) : val T (T.length - 1) = z.Value := val_of (last_get rfl h)
theorem riseTo_snoc {T : List Sample} {x z : Sample} (h : T.getLast? = some z) : riseTo (T ++ [x]) (T ++ [x]).length = riseTo T T.length + step z.Value x.Value := by
  have hn : 0 < T.length := by cases T with | nil => cases h | cons => simp
  rw [List.length_append, List.length_singleton, riseTo, riseTo_app _ (Nat.le_refl _), if_neg (by omega), val_end, val_app (by omega), val_last h]
theorem resetsTo_snoc {T : List Sample} {x z : Sample} (h : T.getLast? = some z) : resetsTo (T ++ [x]) (T ++ [x]).length = resetsTo T T.length + if x.Value < z.Value then 1 else 0 := by
  have hn : 0 < T.length := by cases T with | nil => cases h | cons => simp
  have : resetB (T ++ [x]) T.length = decide (x.Value < z.Value) := by
    unfold resetB
    rw [val_end, val_app (by omega), val_last h]
    simp [hn]
  rw [List.length_append, List.length_singleton, resetsTo, resetsTo_app _ (Nat.le_refl _), this]
  simp
theorem srt_snoc {T : List Sample} {x z : Sample} (h : ∀ (i : Nat) x y, T[i]? = some x → T[i + 1]? = some y → x.At < y.At) (hl : T.getLast? = some z) (hx : z.At < x.At) :
    ∀ (i : Nat) a b, (T ++ [x])[i]? = some a → (T ++ [x])[i + 1]? = some b → a.At < b.At := fun i v u hv hu => by
  have hlt := (List.getElem?_eq_some_iff.1 hu).1
  rw [List.length_append, List.length_singleton] at hlt
  rw [List.getElem?_append_left (by omega)] at hv
  by_cases hi : i + 1 < T.length
  · rw [List.getElem?_append_left hi] at hu; exact h i v u hv hu
  · rw [List.getElem?_append_right (by omega), show i + 1 - T.length = 0 by omega] at hu
    injection hu with hu
    subst hu
    rw [List.getLast?_eq_getElem?, show T.length - 1 = i by omega, hv] at hl
    injection hl with hl
    subst hl
    exact hx
theorem thinOk {l : List Sample} (hc : counterOk l = true) : ∀ k, k < l.length → ∃ z, ThinOk l (k + 1) (thinTo l (k + 1)) z
  | 0, hk => by
    have hx := List.getElem?_eq_getElem hk
    generalize l[0] = x at hx
    have hd : dropB l 0 = false := rfl
    rw [thinTo_no hd hx]
    refine ⟨x, fun y hy => ?_, fun i a b h1 h2 => ?_, rfl, ?_, ?_, .inl ?_, ?_, ?_⟩
    · simp [thinTo] at hy; subst hy; exact List.mem_of_getElem? hx
    · have := (List.getElem?_eq_some_iff.1 h2).1; simp [thinTo] at this
    · rw [show 0 + 1 - 1 = 0 from rfl, sampleAt_of hx]; exact Int.le_refl _
    · rw [show 0 + 1 - 1 = 0 from rfl, val_of hx]; exact Int.le_refl _
    · rw [show 0 + 1 - 1 = 0 from rfl, val_of hx]
    · rw [show 0 + 1 - 1 = 0 from rfl, val_of hx, riseTo_one]; simp [thinTo, riseTo]
    · simp [thinTo, resetsTo, resetB]
  | k + 1, hk => by
    obtain ⟨z, ih⟩ := thinOk hc k (by omega)
    have hx := List.getElem?_eq_getElem hk
    have hy := List.getElem?_eq_getElem (show k < l.length by omega)
    generalize l[k + 1] = x at hx
    generalize l[k] = y at hy
    have hlt := counter_lt hc hy hx
    have hs : riseTo l (k + 1 + 1) = riseTo l (k + 1) + step y.Value x.Value := riseTo_next hx hy (by omega)
    have hr : resetB l (k + 1) = decide (x.Value < y.Value) := resetB_eq hx hy (by omega)
    have i1 := ih.at_; have i2 := ih.val; have i3 := ih.free; have i4 := ih.rise; have i5 := ih.resets
    rw [show k + 1 - 1 = k by omega] at i1 i2 i3 i4
    rw [sampleAt_of hy] at i1
    rw [val_of hy] at i2 i3 i4
    rw [val_of hx] at i3
    cases hd : dropB l (k + 1)
    · rw [thinTo_no hd hx]
      refine ⟨x, fun u hu => ?_, srt_snoc ih.srt ih.last (by omega), List.getLast?_concat .., ?_, ?_, .inl ?_, ?_, ?_⟩
      · rcases List.mem_append.1 hu with h | h
        · exact ih.mem u h
        · rw [List.mem_singleton.1 h]; exact List.mem_of_getElem? hx
      · rw [show k + 1 + 1 - 1 = k + 1 by omega, sampleAt_of hx]; exact Int.le_refl _
      · rw [show k + 1 + 1 - 1 = k + 1 by omega, val_of hx]; exact Int.le_refl _
      · rw [show k + 1 + 1 - 1 = k + 1 by omega, val_of hx]
      · rw [show k + 1 + 1 - 1 = k + 1 by omega, val_of hx, riseTo_snoc ih.last, hs]
        rcases i3 with h | h
        · rw [h]; omega
        · unfold step; rw [if_neg (by omega), if_neg (by omega)]; omega
      · rw [resetsTo_snoc ih.last, i5, resetsTo.eq_def l (k + 1 + 1)]
        simp only [hr, decide_eq_true_eq]
        rcases i3 with h | h
        · rw [h]
        · rw [if_neg (by omega), if_neg (by omega)]
    · rw [thinTo_yes hd]
      unfold dropB at hd
      simp only [Bool.and_eq_true, decide_eq_true_eq] at hd
      have h3 := hd.1.2
      rw [show k + 1 - 1 = k by omega, val_of hy, val_of hx] at h3
      refine ⟨z, ih.mem, ih.srt, ih.last, ?_, ?_, .inr ⟨by omega, ?_⟩, ?_, ?_⟩
      · rw [show k + 1 + 1 - 1 = k + 1 by omega, sampleAt_of hx]; omega
      · rw [show k + 1 + 1 - 1 = k + 1 by omega, val_of hx]; omega
      · rw [show k + 1 + 1 - 1 = k + 1 by omega]; exact hd.2
      · rw [show k + 1 + 1 - 1 = k + 1 by omega, val_of hx, hs]; unfold step; rw [if_neg (by omega)]; omega
      · rw [i5, resetsTo.eq_def l (k + 1 + 1)]
        simp only [hr, decide_eq_true_eq]
        rw [if_neg (by omega)]; omega
theorem thin_all {l : List Sample} (hc : counterOk l = true) (h0 : 0 < l.length) : counterOk (thinTo l l.length) = true ∧ rise (thinTo l l.length) = rise l ∧ resetsTo (thinTo l l.length) (thinTo l l.length).length = resetsTo l l.length := by
  obtain ⟨z, h⟩ := thinOk hc (l.length - 1) (by omega)
  rw [show l.length - 1 + 1 = l.length by omega] at h
  have hf : z.Value = val l (l.length - 1) := h.free.resolve_right fun hh => by omega
  refine ⟨counter_iff.2 ⟨Nat.le_trans (thinTo_len l _) (counterOk_len hc), fun k x hx => ?_, h.srt⟩, ?_, h.resets⟩
  · obtain ⟨i, hi⟩ := List.mem_iff_getElem?.1 (h.mem x (List.mem_of_getElem? hx))
    exact counter_at hc hi
  · have := h.rise
    unfold rise
    omega
end Pl
end Go.Proofs.Ytjpmnegpkpimhaa
