/-
  Plain laws: what the windows of a counter have and rose adds up to all. No program in sight. No conditions.
-/
import Derived.Test.YtjpmnegpkpimhaaPw
namespace Go.Proofs.Ytjpmnegpkpimhaa
namespace Pl
def winAt (W : List Window) (i : Nat) : Window := W.getD i ⟨0, 0, 0, 0, 0⟩
theorem winAt_of {W : List Window} {i : Nat} {x : Window} (h : W[i]? = some x) : winAt W i = x := by
  unfold winAt; rw [List.getD_eq_getElem?_getD, h]; rfl
def wcnt (W : List Window) : Nat → Int
  | 0 => 0
  | k + 1 => wcnt W k + (winAt W k).Count
def wrise (W : List Window) : Nat → Int
  | 0 => 0
  | k + 1 => wrise W k + (winAt W k).Rise + (if 0 < k then step (winAt W (k - 1)).Last (winAt W k).First else 0)
section
variable {W V : List Window} {x : Window}
theorem winAt_app {i : Nat} (h : i < W.length) : winAt (W ++ V) i = winAt W i := by
  unfold winAt; rw [List.getD_eq_getElem?_getD, List.getD_eq_getElem?_getD, List.getElem?_append_left h]
theorem winAt_end : winAt (W ++ [x]) W.length = x := winAt_of (by simp)
theorem wcnt_app : ∀ k, k ≤ W.length → wcnt (W ++ V) k = wcnt W k
  | 0, _ => rfl
  | k + 1, h => by rw [wcnt, wcnt, wcnt_app k (by omega), winAt_app (by omega)]
theorem wrise_app : ∀ k, k ≤ W.length → wrise (W ++ V) k = wrise W k
  | 0, _ => rfl
  | k + 1, h => by rw [wrise, wrise, wrise_app k (by omega), winAt_app (by omega), winAt_app (by omega)]
theorem wcnt_snoc : wcnt (W ++ [x]) (W ++ [x]).length = wcnt W W.length + x.Count := by
  rw [List.length_append, List.length_singleton, wcnt, wcnt_app _ (Nat.le_refl _), winAt_end]
theorem wrise_snoc : wrise (W ++ [x]) (W ++ [x]).length = wrise W W.length + x.Rise + (if 0 < W.length then step (winAt W (W.length - 1)).Last x.First else 0) := by
  rw [List.length_append, List.length_singleton, wrise, wrise_app _ (Nat.le_refl _), winAt_end]
  by_cases h : 0 < W.length
  · rw [if_pos h, if_pos h, winAt_app (by omega)]
  · rw [if_neg h, if_neg h]
theorem winAt_last (h : W.getLast? = some x) : winAt W (W.length - 1) = x := winAt_of (last_get rfl h)
end
structure WinOk (size : Int) (l : List Sample) (k : Nat) (W : List Window) : Prop where
  cnt : wcnt W W.length = k
  rise : wrise W W.length = riseTo l k
  last : ∀ v, W.getLast? = some v → v.Last = val l (k - 1)
  far : ∀ (i : Nat) v u, W[i]? = some v → W[i + 1]? = some u → v.From + size ≤ u.From
theorem far_snoc {size : Int} {W : List Window} {x : Window} (h : ∀ (i : Nat) v u, W[i]? = some v → W[i + 1]? = some u → v.From + size ≤ u.From) (hx : ∀ v, W.getLast? = some v → v.From + size ≤ x.From) :
    ∀ (i : Nat) v u, (W ++ [x])[i]? = some v → (W ++ [x])[i + 1]? = some u → v.From + size ≤ u.From := fun i v u hv hu => by
  have hlt := (List.getElem?_eq_some_iff.1 hu).1
  rw [List.length_append, List.length_singleton] at hlt
  rw [List.getElem?_append_left (by omega)] at hv
  by_cases hi : i + 1 < W.length
  · rw [List.getElem?_append_left hi] at hu; exact h i v u hv hu
  · rw [List.getElem?_append_right (by omega), show i + 1 - W.length = 0 by omega] at hu
    injection hu with hu
    subst hu
    refine hx v ?_
    rw [List.getLast?_eq_getElem?, show W.length - 1 = i by omega]
    exact hv
theorem far_same {size : Int} {W : List Window} {v x : Window} (h : ∀ (i : Nat) v' u, (W ++ [v])[i]? = some v' → (W ++ [v])[i + 1]? = some u → v'.From + size ≤ u.From) (hx : x.From = v.From) :
    ∀ (i : Nat) v' u, (W ++ [x])[i]? = some v' → (W ++ [x])[i + 1]? = some u → v'.From + size ≤ u.From := by
  refine far_snoc (fun i v' u h1 h2 => h i v' u ?_ ?_) (fun v' hv' => ?_)
  · rw [List.getElem?_append_left (List.getElem?_eq_some_iff.1 h1).1]; exact h1
  · rw [List.getElem?_append_left (List.getElem?_eq_some_iff.1 h2).1]; exact h2
  · rw [List.getLast?_eq_getElem?] at hv'
    have h1 := (List.getElem?_eq_some_iff.1 hv').1
    rw [hx]
    refine h (W.length - 1) v' v ?_ ?_
    · rw [List.getElem?_append_left h1]; exact hv'
    · rw [show W.length - 1 + 1 = W.length by omega]; simp
theorem winOk {size : Int} {l : List Sample} (hc : counterOk l = true) (hs : 1 ≤ size) : ∀ k, k ≤ l.length → WinOk size l k (windTo size l k)
  | 0, _ => ⟨rfl, rfl, fun v h => by simp [windTo] at h, fun i v u h => by simp [windTo] at h⟩
  | k + 1, hk => by
    have ih := winOk hc hs k (by omega)
    have hx := List.getElem?_eq_getElem (show k < l.length by omega)
    generalize l[k] = x at hx
    cases hg : (windTo size l k).getLast? with
    | none =>
      rw [List.getLast?_eq_none_iff] at hg
      have h0 : k = 0 := Classical.byContradiction fun h => windTo_pos k (by omega) hg
      subst h0
      rw [windTo_none hx hg]
      refine ⟨rfl, rfl, fun v h => ?_, fun i v u h1 h2 => ?_⟩
      · simp only [windTo, List.nil_append, List.getLast?_singleton, Option.some.injEq] at h
        subst h
        rw [show (0 + 1 - 1 : Nat) = 0 from rfl, val_of hx]; rfl
      · have := (List.getElem?_eq_some_iff.1 h2).1
        simp [windTo] at this
    | some v =>
      have hlast := windTo_last k hg
      have hy := List.getElem?_eq_getElem (show k - 1 < l.length by omega)
      generalize l[k - 1] = y at hy
      have hkr : riseTo l (k + 1) = riseTo l k + step y.Value x.Value := riseTo_next hx hy hlast.1
      have hvl : v.Last = y.Value := (ih.last v hg).trans (val_of hy)
      have hvf : v.From = y.At / size * size := by rw [hlast.2, sampleAt_of hy]
      obtain ⟨W', hW⟩ := List.getLast?_eq_some_iff.1 hg
      by_cases hf : v.From = x.At / size * size
      · rw [windTo_same hx hy hg hf, hW, List.dropLast_concat]
        have i1 := ih.cnt; have i2 := ih.rise; have i4 := ih.far
        rw [hW] at i1 i2 i4
        rw [wcnt_snoc] at i1
        rw [wrise_snoc] at i2
        refine ⟨?_, ?_, fun u hu => ?_, far_same i4 rfl⟩
        · rw [wcnt_snoc]; simp only [wadd]; omega
        · rw [wrise_snoc, hkr]; simp only [wadd]; omega
        · rw [List.getLast?_concat] at hu
          injection hu with hu
          subst hu
          rw [show k + 1 - 1 = k by omega, val_of hx]; rfl
      · rw [windTo_other hx hg hf]
        have hn : 0 < (windTo size l k).length := by rw [hW]; simp
        refine ⟨?_, ?_, fun u hu => ?_, far_snoc ih.far fun u hu => ?_⟩
        · rw [wcnt_snoc, ih.cnt]; rfl
        · rw [wrise_snoc, ih.rise, hkr, if_pos hn, winAt_last hg, hvl]; simp only [wnew]; omega
        · rw [List.getLast?_concat] at hu
          injection hu with hu
          subst hu
          rw [show k + 1 - 1 = k by omega, val_of hx]; rfl
        · rw [hg] at hu
          injection hu with hu
          subst hu
          rw [hvf]
          rw [hvf] at hf
          have hlt : y.At < x.At := counter_lt hc hy (by rw [show k - 1 + 1 = k by omega]; exact hx)
          have h1 : y.At / size ≤ x.At / size := Int.ediv_le_ediv (by omega) (by omega)
          have h2 : y.At / size ≠ x.At / size := fun h => hf (by rw [h])
          have h3 : y.At / size + 1 ≤ x.At / size := by omega
          have h4 := Int.mul_le_mul_of_nonneg_right h3 (show 0 ≤ size by omega)
          rw [Int.add_mul, Int.one_mul] at h4
          exact h4
/-- the law's own sums -/
theorem wcnt_next {W : List Window} {k : Nat} {x : Window} (hx : W[k]? = some x) : wcnt W (k + 1) = wcnt W k + x.Count := by rw [wcnt, winAt_of hx]
theorem wrise_zero {W : List Window} {x : Window} (hx : W[0]? = some x) : wrise W 1 = x.Rise := by
  show 0 + (winAt W 0).Rise + 0 = _
  rw [winAt_of hx]; omega
theorem wrise_next {W : List Window} {k : Nat} {x y : Window} (hx : W[k]? = some x) (hy : W[k - 1]? = some y) (hk : 0 < k) : wrise W (k + 1) = wrise W k + x.Rise + step y.Last x.First := by rw [wrise, winAt_of hx, winAt_of hy, if_pos hk]
theorem wsum_bd {W : List Window} (h : ∀ v ∈ W, 0 ≤ v.Rise ∧ v.Rise ≤ 40000000000 ∧ 0 ≤ v.Count ∧ v.Count ≤ 40 ∧ 0 ≤ v.First ∧ v.First ≤ 1000000000 ∧ 0 ≤ v.Last ∧ v.Last ≤ 1000000000) : ∀ k, 0 ≤ wcnt W k ∧ wcnt W k ≤ 40 * k ∧ 0 ≤ wrise W k ∧ wrise W k ≤ 41000000000 * k
  | 0 => by simp [wcnt, wrise]
  | k + 1 => by
    have ih := wsum_bd h k
    have hb : ∀ i, 0 ≤ (winAt W i).Rise ∧ (winAt W i).Rise ≤ 40000000000 ∧ 0 ≤ (winAt W i).Count ∧ (winAt W i).Count ≤ 40 ∧ 0 ≤ (winAt W i).First ∧ (winAt W i).First ≤ 1000000000 ∧ 0 ≤ (winAt W i).Last ∧ (winAt W i).Last ≤ 1000000000 := fun i => by
      unfold winAt
      rw [List.getD_eq_getElem?_getD]
      cases hh : W[i]? with
      | none => simp
      | some v => exact h v (List.mem_of_getElem? hh)
    have h1 := hb k
    have h2 := hb (k - 1)
    have h3 := step_bd h2.2.2.2.2.2.2.1 h1.2.2.2.2.1 h1.2.2.2.2.2.1
    rw [wcnt, wrise]
    split <;> omega
/-- filled gaps stand at the multiples of the step -/
theorem fillTo_get {l : List Sample} {a0 step : Int} : ∀ {n : Nat} {i : Nat} {x : Sample}, (fillTo l a0 step n)[i]? = some x → x.At = a0 + i * step
  | 0, i, x, h => by simp [fillTo] at h
  | n + 1, i, x, h => by
    rw [fillTo] at h
    by_cases hi : i < n
    · rw [List.getElem?_append_left (by rw [fillTo_len]; exact hi)] at h
      exact fillTo_get h
    · rw [List.getElem?_append_right (by rw [fillTo_len]; omega), fillTo_len] at h
      have h1 := (List.getElem?_eq_some_iff.1 h).1
      simp only [List.length_singleton] at h1
      have h2 : i = n := by omega
      subst h2
      rw [Nat.sub_self] at h
      injection h with h
      subst h
      rfl
end Pl
end Go.Proofs.Ytjpmnegpkpimhaa
