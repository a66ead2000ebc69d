/-
  How data lies in memory: readings (weak: 'at_', all below a block number) and ownership (with the list of the blocks), for numbers, strings, structs and slices of whatever depth. No program in sight. No conditions.
-/
import Derived.WalkKit
import Derived.Below
import Derived.Laws.OwnMore
import Derived.Deep.AppendLies
import Derived.Maps.AppendAt
import Derived.Deep.Draws
namespace Go.Proofs.Ytaepohocabealaa
open Go.RowKit
namespace Mm

def I64 (n : Int) : Prop := -9223372036854775808 ≤ n ∧ n ≤ 9223372036854775807

structure Rep (α : Type) where
  size : Nat
  at_ : World → Nat → α → List Value → Prop
  own : World → α → List Value → List Nat → Prop
  len : ∀ {w B x cs}, at_ w B x cs → cs.length = size
  olen : ∀ {w x cs fp}, own w x cs fp → cs.length = size
  one : ∀ {w x cs fp}, own w x cs fp → ∀ u ∈ cs, u.oneCell' = true
  keep : ∀ {w w' B x cs}, at_ w B x cs → (∀ b, b < B → w'.heap[b]? = w.heap[b]?) → at_ w' B x cs
  more : ∀ {w B B' x cs}, at_ w B x cs → B ≤ B' → at_ w B' x cs
  okeep : ∀ {w w' x cs fp}, own w x cs fp → (∀ b, b ∈ fp → w'.heap[b]? = w.heap[b]?) → own w' x cs fp
  olt : ∀ {w x cs fp}, own w x cs fp → ∀ b, b ∈ fp → b < w.heap.size
  weak : ∀ {w B x cs fp}, own w x cs fp → (∀ b, b ∈ fp → b < B) → at_ w B x cs

/-- what leads nowhere -/
def flat {α : Type} (size : Nat) (enc : α → List Value) (ok : α → Prop) (hl : ∀ x, (enc x).length = size) (h1 : ∀ x, ∀ u ∈ enc x, u.oneCell' = true) : Rep α where
  size := size
  at_ := fun _ _ x cs => cs = enc x ∧ ok x
  own := fun _ x cs fp => cs = enc x ∧ ok x ∧ fp = []
  len := fun h => by rw [h.1]; exact hl _
  olen := fun h => by rw [h.1]; exact hl _
  one := fun h => by rw [h.1]; exact h1 _
  keep := fun h _ => h
  more := fun h _ => h
  okeep := fun h _ => h
  olt := fun h b hb => by rw [h.2.2] at hb; cases hb
  weak := fun h _ => ⟨h.1, h.2.1⟩

def int : Rep Int := flat 1 (fun n => [.int .i64 n]) I64 (fun _ => rfl) (fun _ u hu => by rw [List.mem_singleton.1 hu]; rfl)
def bool : Rep Bool := flat 1 (fun n => [.bool n]) (fun _ => True) (fun _ => rfl) (fun _ u hu => by rw [List.mem_singleton.1 hu]; rfl)
def str : Rep ByteArray := flat 1 (fun n => [.string n]) (fun s => s.size ≤ maxLen) (fun _ => rfl) (fun _ u hu => by rw [List.mem_singleton.1 hu]; rfl)

def pair {α β : Type} (E : Rep α) (F : Rep β) : Rep (α × β) where
  size := E.size + F.size
  at_ := fun w B x cs => ∃ c d, cs = c ++ d ∧ E.at_ w B x.1 c ∧ F.at_ w B x.2 d
  own := fun w x cs fp => ∃ c d f g, cs = c ++ d ∧ fp = f ++ g ∧ E.own w x.1 c f ∧ F.own w x.2 d g
  len := fun h => by obtain ⟨c, d, rfl, h1, h2⟩ := h; rw [List.length_append, E.len h1, F.len h2]
  olen := fun h => by obtain ⟨c, d, f, g, rfl, _, h1, h2⟩ := h; rw [List.length_append, E.olen h1, F.olen h2]
  one := fun h u hu => by
    obtain ⟨c, d, f, g, rfl, _, h1, h2⟩ := h
    rcases List.mem_append.1 hu with hu | hu
    · exact E.one h1 u hu
    · exact F.one h2 u hu
  keep := fun h k => by obtain ⟨c, d, e, h1, h2⟩ := h; exact ⟨c, d, e, E.keep h1 k, F.keep h2 k⟩
  more := fun h k => by obtain ⟨c, d, e, h1, h2⟩ := h; exact ⟨c, d, e, E.more h1 k, F.more h2 k⟩
  okeep := fun h k => by
    obtain ⟨c, d, f, g, e, rfl, h1, h2⟩ := h
    exact ⟨c, d, f, g, e, rfl, E.okeep h1 (fun b hb => k b (List.mem_append_left _ hb)), F.okeep h2 (fun b hb => k b (List.mem_append_right _ hb))⟩
  olt := fun h b hb => by
    obtain ⟨c, d, f, g, e, rfl, h1, h2⟩ := h
    rcases List.mem_append.1 hb with hb | hb
    · exact E.olt h1 b hb
    · exact F.olt h2 b hb
  weak := fun h k => by
    obtain ⟨c, d, f, g, e, rfl, h1, h2⟩ := h
    exact ⟨c, d, e, E.weak h1 (fun b hb => k b (List.mem_append_left _ hb)), F.weak h2 (fun b hb => k b (List.mem_append_right _ hb))⟩

def iso {α β : Type} (f : β → α) (E : Rep α) : Rep β where
  size := E.size
  at_ := fun w B x cs => E.at_ w B (f x) cs
  own := fun w x cs fp => E.own w (f x) cs fp
  len := E.len
  olen := E.olen
  one := E.one
  keep := E.keep
  more := E.more
  okeep := E.okeep
  olt := E.olt
  weak := E.weak

/-- a slice value reads as the list, all below B -/
def SlAt {α : Type} (E : Rep α) (w : World) (B : Nat) (xs : List α) (A : Option Addr) (n c : Nat) : Prop :=
  xs.length = n ∧ n ≤ c ∧ c ≤ maxLen ∧ (A = none → c = 0) ∧
  ∀ i x, xs[i]? = some x → ∃ b off cs, A = some ⟨b, off, none⟩ ∧ b < B ∧ E.at_ w B x cs ∧ ∀ j u, cs[j]? = some u → w.cell? ⟨b, off + i * E.size + j, none⟩ = some u

theorem add0 (g m : Nat) : (⟨g, 0, none⟩ : Addr).add m = ⟨g, m, none⟩ := by unfold Addr.add; split <;> simp_all
theorem flatMap_get {β : Type} {γ : Type} (f : β → List γ) (s : Nat) : ∀ (l : List β), (∀ y ∈ l, (f y).length = s) → ∀ (i : Nat) (y : β) (j : Nat) (u : γ), l[i]? = some y → (f y)[j]? = some u → (l.flatMap f)[i * s + j]? = some u
  | [], _, i, y, j, u, h, _ => by simp at h
  | z :: t, hl, 0, y, j, u, h, hu => by
    simp only [List.getElem?_cons_zero, Option.some.injEq] at h
    subst h
    have hj : j < (f z).length := (List.getElem?_eq_some_iff.1 hu).1
    rw [List.flatMap_cons, Nat.zero_mul, Nat.zero_add, List.getElem?_append_left hj]
    exact hu
  | z :: t, hl, i + 1, y, j, u, h, hu => by
    rw [List.getElem?_cons_succ] at h
    have hz := hl z (by simp)
    rw [List.flatMap_cons, List.getElem?_append_right (by rw [hz, Nat.add_mul]; omega), hz]
    have := flatMap_get f s t (fun y hy => hl y (by simp [hy])) i y j u h hu
    rw [← this]
    congr 1
    rw [Nat.add_mul]; omega

def Elems {α : Type} (E : Rep α) (w : World) (xs : List α) (es : List (List Value × List Nat)) : Prop :=
  es.length = xs.length ∧ ∀ (i : Nat) (x : α) (y : List Value × List Nat), xs[i]? = some x → es[i]? = some y → E.own w x y.1 y.2

def SlOwn {α : Type} (E : Rep α) (e : TypeId) (w : World) (xs : List α) (v : Value) (fp : List Nat) : Prop :=
  ∃ es : List (List Value × List Nat), Elems E w xs es ∧ w.ownsRow 0 e E.size v xs.length (es.flatMap (·.1)) ∧ fp = v.ownBlock.toList ++ es.flatMap (·.2)

section
variable {α : Type} {E : Rep α} {e : TypeId} {w w' : World} {B B' : Nat} {xs : List α} {A : Option Addr} {n c : Nat} {v : Value} {fp : List Nat}

theorem Elems.mem {es : List (List Value × List Nat)} (h : Elems E w xs es) {y : List Value × List Nat} (hy : y ∈ es) : ∃ x ∈ xs, E.own w x y.1 y.2 := by
  obtain ⟨i, hi, rfl⟩ := List.mem_iff_getElem.1 hy
  have hx : i < xs.length := by rw [← h.1]; exact hi
  exact ⟨xs[i], List.getElem_mem hx, h.2 i _ _ (List.getElem?_eq_getElem hx) (List.getElem?_eq_getElem hi)⟩
theorem Elems.len {es : List (List Value × List Nat)} (h : Elems E w xs es) : ∀ y ∈ es, y.1.length = E.size := fun y hy => by
  obtain ⟨x, _, ho⟩ := h.mem hy
  exact E.olen ho
theorem Elems.okeep {es : List (List Value × List Nat)} (h : Elems E w xs es) (k : ∀ b, b ∈ es.flatMap (·.2) → w'.heap[b]? = w.heap[b]?) : Elems E w' xs es :=
  ⟨h.1, fun i x y hx hy => E.okeep (h.2 i x y hx hy) fun b hb => k b (List.mem_flatMap.2 ⟨y, List.mem_of_getElem? hy, hb⟩)⟩

theorem SlAt.keep (h : SlAt E w B xs A n c) (k : ∀ b, b < B → w'.heap[b]? = w.heap[b]?) : SlAt E w' B xs A n c := by
  obtain ⟨h1, h2, h3, h4, h5⟩ := h
  refine ⟨h1, h2, h3, h4, fun i x hx => ?_⟩
  obtain ⟨b, off, cs, hA, hb, ha, hc⟩ := h5 i x hx
  exact ⟨b, off, cs, hA, hb, E.keep ha k, fun j u hu => (World.cell?_of_block (k b hb)).trans (hc j u hu)⟩
theorem SlAt.more (h : SlAt E w B xs A n c) (k : B ≤ B') : SlAt E w B' xs A n c := by
  obtain ⟨h1, h2, h3, h4, h5⟩ := h
  refine ⟨h1, h2, h3, h4, fun i x hx => ?_⟩
  obtain ⟨b, off, cs, hA, hb, ha, hc⟩ := h5 i x hx
  exact ⟨b, off, cs, hA, by omega, E.more ha k, hc⟩
theorem SlAt.below (h : SlAt E w B xs A n c) (hb : Below B w w') : SlAt E w' B xs A n c := h.keep hb.block
/-- element k: its cells, in the walk's spelling for E.size cells -/
theorem SlAt.get (h : SlAt E w B xs A n c) {k : Nat} (hk : k < n) : ∃ x b off cs, xs[k]? = some x ∧ A = some ⟨b, off, none⟩ ∧ b < B ∧ E.at_ w B x cs ∧ ∀ j u, cs[j]? = some u → w.cell? ⟨b, off + k * E.size + j, none⟩ = some u := by
  obtain ⟨h1, h2, h3, h4, h5⟩ := h
  have hk' : k < xs.length := by omega
  obtain ⟨b, off, cs, r⟩ := h5 k xs[k] (List.getElem?_eq_getElem hk')
  exact ⟨_, b, off, cs, List.getElem?_eq_getElem hk', r⟩
/-- the same, where the address is known -/
theorem SlAt.get' {b off : Nat} (h : SlAt E w B xs (some ⟨b, off, none⟩) n c) {k : Nat} (hk : k < n) : ∃ x cs, xs[k]? = some x ∧ b < B ∧ E.at_ w B x cs ∧ ∀ j u, cs[j]? = some u → w.cell? ⟨b, off + k * E.size + j, none⟩ = some u := by
  obtain ⟨x, b', off', cs, hx, hA, r⟩ := h.get hk
  injection hA with hA
  injection hA with h1 h2
  subst h1; subst h2
  exact ⟨x, cs, hx, r⟩
theorem SlAt.nil (hc : c ≤ maxLen) (hA : A = none → c = 0) : SlAt E w B [] A 0 c := ⟨rfl, Nat.zero_le _, hc, hA, fun i x hx => by simp at hx⟩
/-- the head of a slice: s[:k] -/
theorem SlAt.take (h : SlAt E w B xs A n c) {k : Nat} (hk : k ≤ n) : SlAt E w B (xs.take k) A k c := by
  obtain ⟨h1, h2, h3, h4, h5⟩ := h
  refine ⟨by rw [List.length_take]; omega, by omega, h3, h4, fun i x hx => h5 i x ?_⟩
  rw [List.getElem?_take] at hx
  split at hx
  · exact hx
  · cases hx
/-- a shorter capacity -/
theorem SlAt.recap (h : SlAt E w B xs A n c) {c' : Nat} (h1 : n ≤ c') (h2 : c' ≤ c) : SlAt E w B xs A n c' :=
  ⟨h.1, h1, by have := h.2.2.1; omega, fun hA => by have := h.2.2.2.1 hA; omega, h.2.2.2.2⟩

theorem SlOwn.olt (h : SlOwn E e w xs v fp) : ∀ b, b ∈ fp → b < w.heap.size := by
  obtain ⟨es, he, ho, rfl⟩ := h
  intro b hb
  rcases List.mem_append.1 hb with hb | hb
  · exact (ho.lt b (by simpa using hb)).2
  · obtain ⟨y, hy, hb⟩ := List.mem_flatMap.1 hb
    obtain ⟨x, _, hx⟩ := he.mem hy
    exact E.olt hx b hb
theorem SlOwn.okeep (h : SlOwn E e w xs v fp) (k : ∀ b, b ∈ fp → w'.heap[b]? = w.heap[b]?) : SlOwn E e w' xs v fp := by
  obtain ⟨es, he, ho, rfl⟩ := h
  refine ⟨es, he.okeep (fun b hb => k b (List.mem_append_right _ hb)), ⟨ho.1, ?_⟩, rfl⟩
  rcases ho.2 with h | ⟨g, cap, cur, rfl, h1, h2, h3⟩
  · exact .inl h
  · exact .inr ⟨g, cap, cur, rfl, h1, (k g (by simp [Value.ownBlock])).trans h2, h3⟩
theorem SlOwn.form (h : SlOwn E e w xs v fp) : ∃ A n c, v = .slice A n c ∧ n = xs.length ∧ n ≤ c ∧ c ≤ maxLen ∧ (A = none → c = 0) := by
  obtain ⟨es, he, ho, rfl⟩ := h
  rcases ho.2 with ⟨rfl, h⟩ | ⟨g, cap, cur, rfl, h1, h2, h3, h4, h5⟩
  · exact ⟨none, 0, 0, rfl, h.symm, Nat.le_refl _, Nat.zero_le _, fun _ => rfl⟩
  · exact ⟨_, _, cap, rfl, rfl, h3, h4, fun h => by cases h⟩
theorem SlOwn.weak (h : SlOwn E e w xs (.slice A n c) fp) (k : ∀ b, b ∈ fp → b < B) : SlAt E w B xs A n c := by
  obtain ⟨A', n', c', hv, h1, h2, h3, h4⟩ := h.form
  injection hv with e1 e2 e3
  subst e1; subst e2; subst e3
  obtain ⟨es, he, ho, rfl⟩ := h
  refine ⟨h1.symm, h2, h3, h4, fun i x hx => ?_⟩
  have hi : i < xs.length := (List.getElem?_eq_some_iff.1 hx).1
  have hie : i < es.length := by rw [he.1]; exact hi
  have hy := List.getElem?_eq_getElem hie
  have hown := he.2 i x _ hx hy
  obtain ⟨g, cap, hf, _⟩ := ho.form (by omega)
  injection hf with hA
  subst hA
  refine ⟨g, 0, es[i].1, rfl, k g (by simp [Value.ownBlock]), E.weak hown (fun b hb => k b ?_), fun j u hu => ?_⟩
  · exact List.mem_append_right _ (List.mem_flatMap.2 ⟨_, List.getElem_mem hie, hb⟩)
  · have hc := ho.cells (g := g) rfl (i * E.size + j) u (flatMap_get _ _ es he.len i _ j u hy hu)
    rw [add0] at hc
    simpa using hc
end

/-- a slice of things -/
def slice {α : Type} (E : Rep α) (e : TypeId) : Rep (List α) where
  size := 1
  at_ := fun w B xs cs => ∃ A n c, cs = [.slice A n c] ∧ SlAt E w B xs A n c
  own := fun w xs cs fp => ∃ v, cs = [v] ∧ SlOwn E e w xs v fp
  len := fun h => by obtain ⟨A, n, c, rfl, _⟩ := h; rfl
  olen := fun h => by obtain ⟨v, rfl, _⟩ := h; rfl
  one := fun h u hu => by
    obtain ⟨v, rfl, h⟩ := h
    rw [List.mem_singleton.1 hu]
    obtain ⟨A, n, c, rfl, _⟩ := h.form
    rfl
  keep := fun h k => by obtain ⟨A, n, c, rfl, h⟩ := h; exact ⟨A, n, c, rfl, h.keep k⟩
  more := fun h k => by obtain ⟨A, n, c, rfl, h⟩ := h; exact ⟨A, n, c, rfl, h.more k⟩
  okeep := fun h k => by obtain ⟨v, rfl, h⟩ := h; exact ⟨v, rfl, h.okeep k⟩
  olt := fun h => by obtain ⟨v, rfl, h⟩ := h; exact h.olt
  weak := fun h k => by
    obtain ⟨v, rfl, h⟩ := h
    obtain ⟨A, n, c, rfl, _⟩ := h.form
    exact ⟨A, n, c, rfl, h.weak k⟩

end Mm
end Go.Proofs.Ytaepohocabealaa
