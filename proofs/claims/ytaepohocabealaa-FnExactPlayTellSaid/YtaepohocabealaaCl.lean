/-
  A slice copied by append: 'slices.Clone', 'append([]T{}, l...)', where the elements lead nowhere. No program in sight. No conditions.
-/
import Derived.Test.YtaepohocabealaaAc
import Derived.Test.YtaepohocabealaaOx
namespace Go.Proofs.Ytaepohocabealaa
open Go.RowKit
namespace Mm
theorem flatMap_inv {β γ : Type} (f : β → List γ) (s : Nat) : ∀ (l : List β), (∀ y ∈ l, (f y).length = s) → ∀ (j : Nat) (u : γ), (l.flatMap f)[j]? = some u → ∃ i r y, j = i * s + r ∧ l[i]? = some y ∧ (f y)[r]? = some u
  | [], _, j, u, h => by simp at h
  | z :: t, hl, j, u, h => by
    have hz := hl z (by simp)
    rw [List.flatMap_cons] at h
    by_cases hj : j < s
    · rw [List.getElem?_append_left (by omega)] at h
      exact ⟨0, j, z, by omega, rfl, h⟩
    · rw [List.getElem?_append_right (by omega), hz] at h
      obtain ⟨i, r, y, h1, h2, h3⟩ := flatMap_inv f s t (fun y hy => hl y (by simp [hy])) _ _ h
      exact ⟨i + 1, r, y, by rw [Nat.add_mul]; omega, h2, h3⟩
section
variable {α : Type} {E : Rep α} {e : TypeId} {w w1 : World} {B : Nat} {xs : List α} {n c : Nat} {v : Value}
/-- the cells of a slice whose elements lead nowhere -/
theorem flat_cells {enc : α → List Value} {b off : Nat} (hE : ∀ x cs, E.at_ w B x cs → cs = enc x) (h : SlAt E w B xs (some ⟨b, off, none⟩) n c) :
    ∀ j u, (xs.flatMap enc)[j]? = some u → w.cell? ⟨b, off + j, none⟩ = some u := by
  have hlen : ∀ y ∈ xs, (enc y).length = E.size := fun y hy => by
    obtain ⟨i, hi, rfl⟩ := List.mem_iff_getElem.1 hy
    obtain ⟨x, cs, hx, _, ha, _⟩ := h.get' (k := i) (by rw [← h.1]; exact hi)
    rw [List.getElem?_eq_getElem hi] at hx
    injection hx with hx
    subst hx
    rw [← hE _ _ ha]
    exact E.len ha
  intro j u hu
  obtain ⟨i, r, y, rfl, h2, h3⟩ := flatMap_inv enc E.size xs hlen j u hu
  obtain ⟨x, cs, hx, _, ha, hc⟩ := h.get' (k := i) (by rw [← h.1]; exact (List.getElem?_eq_some_iff.1 h2).1)
  rw [h2] at hx
  injection hx with hx
  subst hx
  rw [hE _ _ ha] at hc
  have := hc r u h3
  rwa [Nat.add_assoc] at this
theorem flat_cells' {enc : α → List Value} {a : Addr} (hE : ∀ x cs, E.at_ w B x cs → cs = enc x) (h : SlAt E w B xs (some a) n c) :
    ∀ j u, (xs.flatMap enc)[j]? = some u → w.cell? (a.add j) = some u := by
  intro j u hu
  have hn : 0 < n := by
    apply Classical.byContradiction
    intro hn
    have h0 : xs = [] := List.length_eq_zero_iff.1 (by rw [h.1]; omega)
    rw [h0] at hu
    simp at hu
  obtain ⟨x, b, off, cs, _, hA, _⟩ := h.get hn
  injection hA with hA
  subst hA
  rw [Addr.add_lit]
  exact flat_cells hE h j u hu
/-- s[k:] -/
theorem SlAt.drop {b off k : Nat} (h : SlAt E w B xs (some ⟨b, off, none⟩) n c) (hk : k ≤ n) : SlAt E w B (xs.drop k) (some ⟨b, off + k * E.size, none⟩) (n - k) (c - k) := by
  obtain ⟨h1, h2, h3, h4, h5⟩ := h
  refine ⟨by rw [List.length_drop]; omega, by omega, by omega, (fun hh => by cases hh), fun i x hx => ?_⟩
  rw [List.getElem?_drop] at hx
  obtain ⟨b', off', cs, hA, hb, ha, hc⟩ := h5 (k + i) x hx
  injection hA with hA
  injection hA with e1 e2
  subst e1; subst e2
  refine ⟨b, _, cs, rfl, hb, ha, fun j u hu => ?_⟩
  have := hc j u hu
  rw [Nat.add_mul, ← Nat.add_assoc] at this
  exact this
theorem SlOwn.of_row {enc : α → List Value} (ho : w.ownsRow 0 e E.size v n (xs.flatMap enc)) (hE : ∀ x, x ∈ xs → E.own w x (enc x) []) (hl : xs.length = n) : SlOwn E e w xs v v.ownBlock.toList := by
  have h1 : ∀ l : List α, (l.map fun x => (enc x, ([] : List Nat))).flatMap (·.1) = l.flatMap enc := fun l => by simp [List.flatMap_map]
  have h2 : ∀ l : List α, (l.map fun x => (enc x, ([] : List Nat))).flatMap (·.2) = [] := fun l => by simp [List.flatMap_map]
  subst hl
  refine ⟨xs.map fun x => (enc x, []), ⟨by simp, fun i x y hx hy => ?_⟩, by rw [h1]; exact ho, by rw [h2]; simp⟩
  rw [List.getElem?_map, hx] at hy
  simp at hy
  subst hy
  exact hE x (List.mem_of_getElem? hx)
theorem flat_len {enc : α → List Value} {A : Option Addr} (hE : ∀ x cs, E.at_ w B x cs → cs = enc x) (h : SlAt E w B xs A n c) : (xs.flatMap enc).length = n * E.size := by
  have hlen : ∀ y ∈ xs, (enc y).length = E.size := fun y hy => by
    obtain ⟨i, hi, rfl⟩ := List.mem_iff_getElem.1 hy
    obtain ⟨x, b, off, cs, hx, _, _, ha, _⟩ := h.get (k := i) (by rw [← h.1]; exact hi)
    rw [List.getElem?_eq_getElem hi] at hx
    injection hx with hx
    subst hx
    rw [← hE _ _ ha]
    exact E.len ha
  rw [← h.1]
  clear h
  induction xs with
  | nil => simp
  | cons z t ih => rw [List.flatMap_cons, List.length_append, ih (fun y hy => hlen y (by simp [hy])), hlen z (by simp), List.length_cons, Nat.add_mul]; omega
/-- what 'append(T{}, l...)' leaves, T{} laid in the newest block of w -/
theorem clone_post {enc : α → List Value} {o : Obj} {xs' : List Value} {m : Nat} (hm : m = n) (hx : xs' = xs.flatMap enc) (hown : w1.ownsRow w.heap.size e E.size v m xs') (hgrow : (w.alloc o).grownBy w1 (some w.heap.size)) (hE : ∀ x, x ∈ xs → E.own w1 x (enc x) []) (hl : xs.length = n) :
    Acc E e w xs v w1 := by
  subst hm; subst hx
  have hb : ∀ k, v.ownBlock = some k → w.heap.size ≤ k := fun k hk => (hown.lt k hk).1
  have h0 : w1.ownsRow 0 e E.size v m (xs.flatMap enc) := ⟨hown.1, hown.2.imp id fun ⟨g, cap, cur, h1, _, h3⟩ => ⟨g, cap, cur, h1, Nat.zero_le _, h3⟩⟩
  refine ⟨_, SlOwn.of_row h0 hE hl, by cases v.ownBlock <;> simp, fun b hb' => hb b (by simpa using hb'), ?_⟩
  exact (below_new (Below.refl _ _) o).grown hgrow (by rw [Mm.sz1]; omega) (fun k hk => by injection hk with hk; omega)
theorem Acc.newsl (h : Acc E e w xs v w1) : NewSl E e w xs (.returned v) w1 := by
  obtain ⟨fp, h1, h2, h3, h4⟩ := h
  obtain ⟨A, n, c, rfl, _⟩ := h1.form
  exact ⟨A, n, c, fp, rfl, h1, h2, h3, h4⟩
end
section
variable {α : Type} {E : Rep α} {t : TypeId} {w wr : World} {xs : List α}
/-- element i, which leads nowhere, is stored whole -/
theorem Acc.setAll {g n c i : Nat} {x : α} {cs : List Value} (h : Acc E t w xs (.slice (some ⟨g, 0, none⟩) n c) wr) (hi : i < xs.length) (hx : E.own wr x cs []) :
    Acc E t w (xs.set i x) (.slice (some ⟨g, 0, none⟩) n c) (setCells wr g (i * E.size) cs) := by
  obtain ⟨fp, h1, h2, h3, h4⟩ := h
  obtain ⟨fp', k1, k2, k3⟩ := h1.set hi hx h2 List.nodup_nil (fun b hb => by cases hb)
  refine ⟨fp', k1, k2, fun b hb => h3 b ((k3 b hb).resolve_right (fun hh => by cases hh)), ?_⟩
  exact h4.grown (setCells_grown _ _ _ _) h4.size (fun k hk => by injection hk with hk; subst hk; exact h3 _ h1.mem_block)
/-- one cell of element i is stored into -/
theorem Acc.put {g n c i j : Nat} {x x' : α} {u : Value} (h : Acc E t w xs (.slice (some ⟨g, 0, none⟩) n c) wr) (hi : xs[i]? = some x) (hj : j < E.size) (hx : ∀ cs fx, E.own wr x cs fx → E.own wr x' (cs.set j u) fx) :
    Acc E t w (xs.set i x') (.slice (some ⟨g, 0, none⟩) n c) (wr.setCell ⟨g, i * E.size + j, none⟩ u) := by
  obtain ⟨fp, h1, h2, h3, h4⟩ := h
  exact ⟨fp, h1.store h2 hi hj hx, h2, h3, h4.setCell (h3 g h1.mem_block) _⟩
end
end Mm
end Go.Proofs.Ytaepohocabealaa
