/-
  Joined texts, in build order: Mm, Qu, Ow, Bk, Ac, Ox, Cl, Se, Sf, Sx, Fa, Dt, Mk, Ty, Yh, P1, Wa. Each part says what it proves; no conditions beyond those that a part names.
-/
import Derived.WalkKit
import Derived.Below
import Derived.Laws.OwnMore
import Derived.Deep.AppendLies
import Derived.Maps.AppendAt
import Derived.Deep.Draws
import Derived.BigQuiet
import Derived.Deep.QuietTactic
import Derived.Deep.RegionHeld3
import Derived.Laws.CopyOwn
import Derived.Test.YtbhmdnjammnlnaaGreatDoorRows
import Derived.WalkLawsBesides
import Derived.WalkSpells
import Derived.Outline
import Derived.IntWalk
import Derived.Lib.Hide
set_option linter.unusedVariables false
set_option linter.unusedSimpArgs false
namespace Go.Proofs.YtbhmdnjammnlnaaGreatDoor
open Go.RowKit
namespace Mm
def I64 (n : Int) : Prop := -9223372036854775808 ≤ n ∧ n ≤ 9223372036854775807
structure Rep (α : Type) where
  size : Nat
  at_ : World → Nat → α → List Value → Prop
  own : World → α → List Value → List Nat → Prop
  len : ∀ {w B x cs}, at_ w B x cs → cs.length = size
  olen : ∀ {w x cs fp}, own w x cs fp → cs.length = size
  one : ∀ {w x cs fp}, own w x cs fp → ∀ u ∈ cs, u.oneCell' = true
  keep : ∀ {w w' B x cs}, at_ w B x cs → (∀ b, b < B → w'.heap[b]? = w.heap[b]?) → at_ w' B x cs
  more : ∀ {w B B' x cs}, at_ w B x cs → B ≤ B' → at_ w B' x cs
  okeep : ∀ {w w' x cs fp}, own w x cs fp → (∀ b, b ∈ fp → w'.heap[b]? = w.heap[b]?) → own w' x cs fp
  olt : ∀ {w x cs fp}, own w x cs fp → ∀ b, b ∈ fp → b < w.heap.size
  weak : ∀ {w B x cs fp}, own w x cs fp → (∀ b, b ∈ fp → b < B) → at_ w B x cs
def flat {α : Type} (size : Nat) (enc : α → List Value) (ok : α → Prop) (hl : ∀ x, (enc x).length = size) (h1 : ∀ x, ∀ u ∈ enc x, u.oneCell' = true) : Rep α where
  size := size
  at_ := fun _ _ x cs => cs = enc x ∧ ok x
  own := fun _ x cs fp => cs = enc x ∧ ok x ∧ fp = []
  len := fun h => by rw [h.1]; exact hl _
  olen := fun h => by rw [h.1]; exact hl _
  one := fun h => by rw [h.1]; exact h1 _
  keep := fun h _ => h
  more := fun h _ => h
  okeep := fun h _ => h
  olt := fun h b hb => by rw [h.2.2] at hb; cases hb
  weak := fun h _ => ⟨h.1, h.2.1⟩
def int : Rep Int := flat 1 (fun n => [.int .i64 n]) I64 (fun _ => rfl) (fun _ u hu => by rw [List.mem_singleton.1 hu]; rfl)
def bool : Rep Bool := flat 1 (fun n => [.bool n]) (fun _ => True) (fun _ => rfl) (fun _ u hu => by rw [List.mem_singleton.1 hu]; rfl)
def str : Rep ByteArray := flat 1 (fun n => [.string n]) (fun s => s.size ≤ maxLen) (fun _ => rfl) (fun _ u hu => by rw [List.mem_singleton.1 hu]; rfl)
def pair {α β : Type} (E : Rep α) (F : Rep β) : Rep (α × β) where
  size := E.size + F.size
  at_ := fun w B x cs => ∃ c d, cs = c ++ d ∧ E.at_ w B x.1 c ∧ F.at_ w B x.2 d
  own := fun w x cs fp => ∃ c d f g, cs = c ++ d ∧ fp = f ++ g ∧ E.own w x.1 c f ∧ F.own w x.2 d g
  len := fun h => by obtain ⟨c, d, rfl, h1, h2⟩ := h; rw [List.length_append, E.len h1, F.len h2]
  olen := fun h => by obtain ⟨c, d, f, g, rfl, _, h1, h2⟩ := h; rw [List.length_append, E.olen h1, F.olen h2]
  one := fun h u hu => by
    obtain ⟨c, d, f, g, rfl, _, h1, h2⟩ := h
    rcases List.mem_append.1 hu with hu | hu
    · exact E.one h1 u hu
    · exact F.one h2 u hu
  keep := fun h k => by obtain ⟨c, d, e, h1, h2⟩ := h; exact ⟨c, d, e, E.keep h1 k, F.keep h2 k⟩
  more := fun h k => by obtain ⟨c, d, e, h1, h2⟩ := h; exact ⟨c, d, e, E.more h1 k, F.more h2 k⟩
  okeep := fun h k => by
    obtain ⟨c, d, f, g, e, rfl, h1, h2⟩ := h
    exact ⟨c, d, f, g, e, rfl, E.okeep h1 (fun b hb => k b (List.mem_append_left _ hb)), F.okeep h2 (fun b hb => k b (List.mem_append_right _ hb))⟩
  olt := fun h b hb => by
    obtain ⟨c, d, f, g, e, rfl, h1, h2⟩ := h
    rcases List.mem_append.1 hb with hb | hb
    · exact E.olt h1 b hb
    · exact F.olt h2 b hb
  weak := fun h k => by
    obtain ⟨c, d, f, g, e, rfl, h1, h2⟩ := h
    exact ⟨c, d, e, E.weak h1 (fun b hb => k b (List.mem_append_left _ hb)), F.weak h2 (fun b hb => k b (List.mem_append_right _ hb))⟩
def iso {α β : Type} (f : β → α) (E : Rep α) : Rep β where
  size := E.size
  at_ := fun w B x cs => E.at_ w B (f x) cs
  own := fun w x cs fp => E.own w (f x) cs fp
  len := E.len
  olen := E.olen
  one := E.one
  keep := E.keep
  more := E.more
  okeep := E.okeep
  olt := E.olt
  weak := E.weak
def SlAt {α : Type} (E : Rep α) (w : World) (B : Nat) (xs : List α) (A : Option Addr) (n c : Nat) : Prop :=
  xs.length = n ∧ n ≤ c ∧ c ≤ maxLen ∧ (A = none → c = 0) ∧
  ∀ i x, xs[i]? = some x → ∃ b off cs, A = some ⟨b, off, none⟩ ∧ b < B ∧ E.at_ w B x cs ∧ ∀ j u, cs[j]? = some u → w.cell? ⟨b, off + i * E.size + j, none⟩ = some u
theorem add0 (g m : Nat) : (⟨g, 0, none⟩ : Addr).add m = ⟨g, m, none⟩ := by unfold Addr.add; split <;> simp_all
theorem flatMap_get {β : Type} {γ : Type} (f : β → List γ) (s : Nat) : ∀ (l : List β), (∀ y ∈ l, (f y).length = s) → ∀ (i : Nat) (y : β) (j : Nat) (u : γ), l[i]? = some y → (f y)[j]? = some u → (l.flatMap f)[i * s + j]? = some u
  | [], _, i, y, j, u, h, _ => by simp at h
  | z :: t, hl, 0, y, j, u, h, hu => by
    simp only [List.getElem?_cons_zero, Option.some.injEq] at h
    subst h
    have hj : j < (f z).length := (List.getElem?_eq_some_iff.1 hu).1
    rw [List.flatMap_cons, Nat.zero_mul, Nat.zero_add, List.getElem?_append_left hj]
    exact hu
  | z :: t, hl, i + 1, y, j, u, h, hu => by
    rw [List.getElem?_cons_succ] at h
    have hz := hl z (by simp)
    rw [List.flatMap_cons, List.getElem?_append_right (by rw [hz, Nat.add_mul]; omega), hz]
    have := flatMap_get f s t (fun y hy => hl y (by simp [hy])) i y j u h hu
    rw [← this]
    congr 1
    rw [Nat.add_mul]; omega
def Elems {α : Type} (E : Rep α) (w : World) (xs : List α) (es : List (List Value × List Nat)) : Prop :=
  es.length = xs.length ∧ ∀ (i : Nat) (x : α) (y : List Value × List Nat), xs[i]? = some x → es[i]? = some y → E.own w x y.1 y.2
def SlOwn {α : Type} (E : Rep α) (e : TypeId) (w : World) (xs : List α) (v : Value) (fp : List Nat) : Prop :=
  ∃ es : List (List Value × List Nat), Elems E w xs es ∧ w.ownsRow 0 e E.size v xs.length (es.flatMap (·.1)) ∧ fp = v.ownBlock.toList ++ es.flatMap (·.2)
section
variable {α : Type} {E : Rep α} {e : TypeId} {w w' : World} {B B' : Nat} {xs : List α} {A : Option Addr} {n c : Nat} {v : Value} {fp : List Nat}
theorem Elems.mem {es : List (List Value × List Nat)} (h : Elems E w xs es) {y : List Value × List Nat} (hy : y ∈ es) : ∃ x ∈ xs, E.own w x y.1 y.2 := by
  obtain ⟨i, hi, rfl⟩ := List.mem_iff_getElem.1 hy
  have hx : i < xs.length := by rw [← h.1]; exact hi
  exact ⟨xs[i], List.getElem_mem hx, h.2 i _ _ (List.getElem?_eq_getElem hx) (List.getElem?_eq_getElem hi)⟩
theorem Elems.len {es : List (List Value × List Nat)} (h : Elems E w xs es) : ∀ y ∈ es, y.1.length = E.size := fun y hy => by
  obtain ⟨x, _, ho⟩ := h.mem hy
  exact E.olen ho
theorem Elems.okeep {es : List (List Value × List Nat)} (h : Elems E w xs es) (k : ∀ b, b ∈ es.flatMap (·.2) → w'.heap[b]? = w.heap[b]?) : Elems E w' xs es :=
  ⟨h.1, fun i x y hx hy => E.okeep (h.2 i x y hx hy) fun b hb => k b (List.mem_flatMap.2 ⟨y, List.mem_of_getElem? hy, hb⟩)⟩
theorem SlAt.keep (h : SlAt E w B xs A n c) (k : ∀ b, b < B → w'.heap[b]? = w.heap[b]?) : SlAt E w' B xs A n c := by
  obtain ⟨h1, h2, h3, h4, h5⟩ := h
  refine ⟨h1, h2, h3, h4, fun i x hx => ?_⟩
  obtain ⟨b, off, cs, hA, hb, ha, hc⟩ := h5 i x hx
  exact ⟨b, off, cs, hA, hb, E.keep ha k, fun j u hu => (World.cell?_of_block (k b hb)).trans (hc j u hu)⟩
theorem SlAt.more (h : SlAt E w B xs A n c) (k : B ≤ B') : SlAt E w B' xs A n c := by
  obtain ⟨h1, h2, h3, h4, h5⟩ := h
  refine ⟨h1, h2, h3, h4, fun i x hx => ?_⟩
  obtain ⟨b, off, cs, hA, hb, ha, hc⟩ := h5 i x hx
  exact ⟨b, off, cs, hA, by omega, E.more ha k, hc⟩
theorem SlAt.below (h : SlAt E w B xs A n c) (hb : Below B w w') : SlAt E w' B xs A n c := h.keep hb.block
theorem SlAt.get (h : SlAt E w B xs A n c) {k : Nat} (hk : k < n) : ∃ x b off cs, xs[k]? = some x ∧ A = some ⟨b, off, none⟩ ∧ b < B ∧ E.at_ w B x cs ∧ ∀ j u, cs[j]? = some u → w.cell? ⟨b, off + k * E.size + j, none⟩ = some u := by
  obtain ⟨h1, h2, h3, h4, h5⟩ := h
  have hk' : k < xs.length := by omega
  obtain ⟨b, off, cs, r⟩ := h5 k xs[k] (List.getElem?_eq_getElem hk')
  exact ⟨_, b, off, cs, List.getElem?_eq_getElem hk', r⟩
theorem SlAt.get' {b off : Nat} (h : SlAt E w B xs (some ⟨b, off, none⟩) n c) {k : Nat} (hk : k < n) : ∃ x cs, xs[k]? = some x ∧ b < B ∧ E.at_ w B x cs ∧ ∀ j u, cs[j]? = some u → w.cell? ⟨b, off + k * E.size + j, none⟩ = some u := by
  obtain ⟨x, b', off', cs, hx, hA, r⟩ := h.get hk
  injection hA with hA
  injection hA with h1 h2
  subst h1; subst h2
  exact ⟨x, cs, hx, r⟩
theorem SlAt.nil (hc : c ≤ maxLen) (hA : A = none → c = 0) : SlAt E w B [] A 0 c := ⟨rfl, Nat.zero_le _, hc, hA, fun i x hx => by simp at hx⟩
theorem SlAt.take (h : SlAt E w B xs A n c) {k : Nat} (hk : k ≤ n) : SlAt E w B (xs.take k) A k c := by
  obtain ⟨h1, h2, h3, h4, h5⟩ := h
  refine ⟨by rw [List.length_take]; omega, by omega, h3, h4, fun i x hx => h5 i x ?_⟩
  rw [List.getElem?_take] at hx
  split at hx
  · exact hx
  · cases hx
theorem SlOwn.olt (h : SlOwn E e w xs v fp) : ∀ b, b ∈ fp → b < w.heap.size := by
  obtain ⟨es, he, ho, rfl⟩ := h
  intro b hb
  rcases List.mem_append.1 hb with hb | hb
  · exact (ho.lt b (by simpa using hb)).2
  · obtain ⟨y, hy, hb⟩ := List.mem_flatMap.1 hb
    obtain ⟨x, _, hx⟩ := he.mem hy
    exact E.olt hx b hb
theorem SlOwn.okeep (h : SlOwn E e w xs v fp) (k : ∀ b, b ∈ fp → w'.heap[b]? = w.heap[b]?) : SlOwn E e w' xs v fp := by
  obtain ⟨es, he, ho, rfl⟩ := h
  refine ⟨es, he.okeep (fun b hb => k b (List.mem_append_right _ hb)), ⟨ho.1, ?_⟩, rfl⟩
  rcases ho.2 with h | ⟨g, cap, cur, rfl, h1, h2, h3⟩
  · exact .inl h
  · exact .inr ⟨g, cap, cur, rfl, h1, (k g (by simp [Value.ownBlock])).trans h2, h3⟩
theorem SlOwn.form (h : SlOwn E e w xs v fp) : ∃ A n c, v = .slice A n c ∧ n = xs.length ∧ n ≤ c ∧ c ≤ maxLen ∧ (A = none → c = 0) := by
  obtain ⟨es, he, ho, rfl⟩ := h
  rcases ho.2 with ⟨rfl, h⟩ | ⟨g, cap, cur, rfl, h1, h2, h3, h4, h5⟩
  · exact ⟨none, 0, 0, rfl, h.symm, Nat.le_refl _, Nat.zero_le _, fun _ => rfl⟩
  · exact ⟨_, _, cap, rfl, rfl, h3, h4, fun h => by cases h⟩
theorem SlOwn.weak (h : SlOwn E e w xs (.slice A n c) fp) (k : ∀ b, b ∈ fp → b < B) : SlAt E w B xs A n c := by
  obtain ⟨A', n', c', hv, h1, h2, h3, h4⟩ := h.form
  injection hv with e1 e2 e3
  subst e1; subst e2; subst e3
  obtain ⟨es, he, ho, rfl⟩ := h
  refine ⟨h1.symm, h2, h3, h4, fun i x hx => ?_⟩
  have hi : i < xs.length := (List.getElem?_eq_some_iff.1 hx).1
  have hie : i < es.length := by rw [he.1]; exact hi
  have hy := List.getElem?_eq_getElem hie
  have hown := he.2 i x _ hx hy
  obtain ⟨g, cap, hf, _⟩ := ho.form (by omega)
  injection hf with hA
  subst hA
  refine ⟨g, 0, es[i].1, rfl, k g (by simp [Value.ownBlock]), E.weak hown (fun b hb => k b ?_), fun j u hu => ?_⟩
  · exact List.mem_append_right _ (List.mem_flatMap.2 ⟨_, List.getElem_mem hie, hb⟩)
  · have hc := ho.cells (g := g) rfl (i * E.size + j) u (flatMap_get _ _ es he.len i _ j u hy hu)
    rw [add0] at hc
    simpa using hc
end
def slice {α : Type} (E : Rep α) (e : TypeId) : Rep (List α) where
  size := 1
  at_ := fun w B xs cs => ∃ A n c, cs = [.slice A n c] ∧ SlAt E w B xs A n c
  own := fun w xs cs fp => ∃ v, cs = [v] ∧ SlOwn E e w xs v fp
  len := fun h => by obtain ⟨A, n, c, rfl, _⟩ := h; rfl
  olen := fun h => by obtain ⟨v, rfl, _⟩ := h; rfl
  one := fun h u hu => by
    obtain ⟨v, rfl, h⟩ := h
    rw [List.mem_singleton.1 hu]
    obtain ⟨A, n, c, rfl, _⟩ := h.form
    rfl
  keep := fun h k => by obtain ⟨A, n, c, rfl, h⟩ := h; exact ⟨A, n, c, rfl, h.keep k⟩
  more := fun h k => by obtain ⟨A, n, c, rfl, h⟩ := h; exact ⟨A, n, c, rfl, h.more k⟩
  okeep := fun h k => by obtain ⟨v, rfl, h⟩ := h; exact ⟨v, rfl, h.okeep k⟩
  olt := fun h => by obtain ⟨v, rfl, h⟩ := h; exact h.olt
  weak := fun h k => by
    obtain ⟨v, rfl, h⟩ := h
    obtain ⟨A, n, c, rfl, _⟩ := h.form
    exact ⟨A, n, c, rfl, h.weak k⟩
end Mm
end Go.Proofs.YtbhmdnjammnlnaaGreatDoor

namespace Go.Proofs.YtbhmdnjammnlnaaGreatDoor
open Go.RowKit
structure Und (w : World) where
  X : World
  h : Below w.heap.size w X
def und (w : World) (x : Und w) : World := x.X
instance (w : World) : Nonempty (Und w) := ⟨⟨w, Below.refl _ _⟩⟩
theorem und_cell {w : World} (x : Und w) (a : Addr) (h : (w.cell? a).isSome = true) : (und w x).cell? a = w.cell? a := by
  obtain ⟨u, hu⟩ := Option.isSome_iff_exists.1 h
  exact x.h.cell (World.block_lt_of_cell? w a hu)
theorem below_some {w w' : World} (h : Below w.heap.size w w') {a : Addr} {v : Value} (hc : w.cell? a = some v) : w'.cell? a = some v :=
  (h.cell (World.block_lt_of_cell? w a hc)).trans hc
theorem below_step {a b c : World} (h : Below a.heap.size a b) (k : Below b.heap.size b c) : Below a.heap.size a c := h.trans (k.mono h.size)
theorem below_new {a b : World} (h : Below a.heap.size a b) (o : Obj) : Below a.heap.size a (b.alloc o) := h.alloc h.size o
section
variable {P : Program} {f : FuncId} {args : Array Value} {w : World} {v : Value}
theorem und_call (x : Und w) (h : Calls P f args (und w x) fun e w' => e = .returned v ∧ Below (und w x).heap.size (und w x) w') :
    Calls P f args (und w x) fun e w'' => e = .returned v ∧ ∃ y : Und w, w'' = und w y :=
  h.mono fun _ w' ⟨he, hb⟩ => ⟨he, ⟨w', below_step x.h hb⟩, rfl⟩
theorem und_same (x : Und w) (h : Calls P f args (und w x) fun e w' => e = .returned v ∧ und w x = w') :
    Calls P f args (und w x) fun e w'' => e = .returned v ∧ ∃ y : Und w, w'' = und w y :=
  h.mono fun _ _ ⟨he, hb⟩ => ⟨he, x, hb.symm⟩
theorem Mm.SlAt.und {α : Type} {E : Mm.Rep α} {w : World} {B : Nat} {xs : List α} {A : Option Addr} {n c : Nat} (h : Mm.SlAt E w B xs A n c) (hB : B ≤ w.heap.size) (x : Und w) : Mm.SlAt E (und w x) B xs A n c :=
  h.keep fun b hb => x.h.block b (by omega)
theorem und_size (x : Und w) : w.heap.size ≤ (und w x).heap.size := x.h.size
end
theorem wp_region_und {P : Program} {id : Nat} {Q : Exit → Act → World → Prop} {a : Act} {w : World} {l : List Oper} (hm : P.follows .mixedOrders = true) (hB : Region.lexB .any l.toArray = true)
    (h : wpQuiet P l.toArray (fun w' => ∃ x : Und w, w' = und w x) (fun a' => ∀ X, Below w.heap.size w X → Q .normal a' X) l a) : (Code.region id l.toArray true).wp P Q a w := by
  refine wp_region_quiet (C := fun w' => ∃ x : Und w, w' = und w x) hm hB ⟨⟨w.drew, (Below.refl _ _).drew⟩, rfl⟩ ?_
  have hm' : ∀ (l' : List Oper) (a : Act) (Q Q' : Act → Prop), (∀ a, Q a → Q' a) → wpQuiet P l.toArray (fun w' => ∃ x : Und w, w' = und w x) Q l' a → wpQuiet P l.toArray (fun w' => ∃ x : Und w, w' = und w x) Q' l' a := by
    intro l'
    induction l' with
    | nil => intro a Q Q' hq h; exact hq a h
    | cons o rest ih =>
      intro a Q Q' hq h
      unfold wpQuiet at h ⊢
      split
      · rename_i hw
        rw [if_pos hw] at h
        exact Oper.quiet_mono (fun a h => ih a Q Q' hq h) h
      · rename_i hw
        rw [if_neg hw] at h
        exact ih _ Q Q' hq h
  have e : l.toArray.toList = l := rfl
  rw [e]
  exact hm' l a _ _ (fun a' hq w' ⟨x, hx⟩ => by subst hx; exact hq _ x.h) h
end Go.Proofs.YtbhmdnjammnlnaaGreatDoor

namespace Go.Proofs.YtbhmdnjammnlnaaGreatDoor
open Go.RowKit
namespace Mm
theorem madeCells_rep (z : Array Value) (n : Nat) (hz : 0 < z.size) : (madeCells z (n * z.size)).toList = (List.replicate n z.toList).flatten := by
  induction n with
  | zero => simp [madeCells]
  | succ n ih =>
    rw [List.replicate_succ', List.flatten_append, ← ih]
    apply List.ext_getElem?
    intro i
    have hm : ∀ N j, (madeCells z N).toList[j]? = if j < N then some z[j % z.size]! else none := by
      intro N j
      by_cases h : j < N <;> simp [madeCells, h]
    by_cases h1 : i < n * z.size
    · rw [List.getElem?_append_left (by rw [Array.length_toList, size_madeCells]; exact h1), hm, hm, if_pos h1, if_pos (by rw [Nat.add_mul]; omega)]
    · rw [List.getElem?_append_right (by rw [Array.length_toList, size_madeCells]; omega), Array.length_toList, size_madeCells, hm]
      by_cases h2 : i < (n + 1) * z.size
      · obtain ⟨d, hd⟩ : ∃ d, i = d + n * z.size := ⟨i - n * z.size, by omega⟩
        have h3 : d < z.size := by rw [Nat.add_mul] at h2; omega
        rw [if_pos h2, hd, Nat.add_mul_mod_self_right, Nat.mod_eq_of_lt h3, Nat.add_sub_cancel]
        simp [h3]
      · rw [if_neg h2]
        have h3 : ¬ i - n * z.size < z.size := by rw [Nat.add_mul] at h2; omega
        simp
        omega
section
variable {α : Type} {E : Rep α} {e : TypeId} {w w' : World} {xs : List α} {v : Value} {fp : List Nat}
theorem SlOwn.nil : SlOwn E e w [] (.slice none 0 0) [] := ⟨[], ⟨rfl, fun i x y h => by simp at h⟩, World.ownsRow_nil _ _ _ _, rfl⟩
theorem flatMap_rep {β γ : Type} (f : β → List γ) (y : β) (n : Nat) : (List.replicate n y).flatMap f = (List.replicate n (f y)).flatten := by
  rw [List.flatMap_def, List.map_replicate]
theorem SlOwn.made {n : Nat} {z : Value} {z0 : α} (hown : w.ownsRow 0 e E.size v n (madeCells z.cells (n * E.size)).toList) (hz : E.own w z0 z.cells.toList []) (h0 : 0 < E.size) :
    SlOwn E e w (List.replicate n z0) v v.ownBlock.toList := by
  have hs : z.cells.size = E.size := by have := E.olen hz; simpa using this
  refine ⟨List.replicate n (z.cells.toList, []), ⟨by simp, fun i x y hx hy => ?_⟩, ?_, ?_⟩
  · rw [List.getElem?_replicate] at hx hy
    by_cases hi : i < n
    · rw [if_pos hi] at hx hy
      injection hx with hx; injection hy with hy
      subst hx; subst hy
      exact hz
    · rw [if_neg hi] at hx
      cases hx
  · rw [List.length_replicate, flatMap_rep, ← madeCells_rep z.cells n (by omega), hs]
    exact hown
  · rw [flatMap_rep]
    have : ∀ m : Nat, (List.replicate m ([] : List Nat)).flatten = [] := fun m => by induction m with
      | zero => rfl
      | succ m ih => rw [List.replicate_succ, List.flatten_cons, ih]; rfl
    simp [this]
def setCells (w : World) (g : Nat) : Nat → List Value → World
  | _, [] => w
  | o, c :: cs => setCells (w.setCell ⟨g, o, none⟩ c) g (o + 1) cs
def setList : List Value → Nat → List Value → List Value
  | l, _, [] => l
  | l, o, c :: cs => setList (l.set o c) (o + 1) cs
theorem setList_len : ∀ (cs l : List Value) (o : Nat), (setList l o cs).length = l.length
  | [], _, _ => rfl
  | c :: cs, l, o => by unfold setList; rw [setList_len cs]; simp
theorem setList_get : ∀ (cs l : List Value) (o i : Nat), o + cs.length ≤ l.length → (setList l o cs)[i]? = if o ≤ i ∧ i < o + cs.length then cs[i - o]? else l[i]?
  | [], l, o, i, _ => by
    unfold setList
    rw [if_neg (by simp only [List.length_nil]; omega)]
  | c :: cs, l, o, i, h => by
    unfold setList
    simp only [List.length_cons] at h ⊢
    rw [setList_get cs (l.set o c) (o + 1) i (by rw [List.length_set]; omega)]
    by_cases h1 : o + 1 ≤ i ∧ i < o + 1 + cs.length
    · rw [if_pos h1, if_pos (by omega), show i - o = (i - (o + 1)) + 1 by omega, List.getElem?_cons_succ]
    · rw [if_neg h1]
      by_cases h2 : i = o
      · subst h2
        rw [if_pos (by omega), List.getElem?_set_self (by omega), Nat.sub_self]
        rfl
      · rw [if_neg (by omega), List.getElem?_set_ne (by omega)]
theorem setCells_heap (g : Nat) : ∀ (cs : List Value) (w : World) (o k : Nat), k ≠ g → (setCells w g o cs).heap[k]? = w.heap[k]?
  | [], _, _, _, _ => rfl
  | c :: cs, w, o, k, h => by unfold setCells; rw [setCells_heap g cs _ _ k h]; exact Below.heap_setCell _ _ _ _ h
theorem setCells_grown (g : Nat) : ∀ (cs : List Value) (w : World) (o : Nat), w.grownBy (setCells w g o cs) (some g)
  | [], w, _ => ⟨rfl, rfl, rfl, Nat.le_refl _, fun _ _ _ => rfl⟩
  | c :: cs, w, o => by
    unfold setCells
    have h1 := setCells_grown g cs (w.setCell ⟨g, o, none⟩ c) (o + 1)
    exact ⟨h1.os, h1.tape, h1.output, by have := h1.size; simpa [World.setCell] using this, fun k _ hk => by
      have hkg : k ≠ g := fun e => hk (by rw [e])
      rw [setCells_heap g cs _ _ k hkg]; exact Below.heap_setCell _ _ _ _ hkg⟩
theorem setCells_own {base n cap : Nat} {size : Nat} (g : Nat) : ∀ (cs : List Value) (w : World) (o : Nat) (l : List Value), w.ownsRow base e size (.slice (some ⟨g, 0, none⟩) n cap) n l →
    (setCells w g o cs).ownsRow base e size (.slice (some ⟨g, 0, none⟩) n cap) n (setList l o cs)
  | [], _, _, _, h => h
  | c :: cs, _, o, _, h => setCells_own g cs _ (o + 1) _ (h.stored o c).1
theorem setList_elems (s : Nat) : ∀ (es : List (List Value × List Nat)) (i : Nat) (cs : List Value) (fx : List Nat), (∀ y ∈ es, y.1.length = s) → cs.length = s → i < es.length →
    setList (es.flatMap (·.1)) (i * s) cs = (es.set i (cs, fx)).flatMap (·.1) := by
  intro es i cs fx hs hc hi
  have hlen : ∀ l : List (List Value × List Nat), (∀ y ∈ l, y.1.length = s) → (l.flatMap (·.1)).length = l.length * s := by
    intro l
    induction l with
    | nil => intro _; simp
    | cons z t ih =>
      intro h
      rw [List.flatMap_cons, List.length_append, ih (fun y hy => h y (by simp [hy])), h z (by simp), List.length_cons, Nat.add_mul]
      omega
  have hs' : ∀ y ∈ es.set i (cs, fx), y.1.length = s := by
    intro y hy
    rcases List.mem_or_eq_of_mem_set hy with h | rfl
    · exact hs y h
    · exact hc
  have hb : i * s + s ≤ es.length * s := by
    have := Nat.mul_le_mul_right s (show i + 1 ≤ es.length by omega)
    rw [Nat.add_mul] at this; omega
  apply List.ext_getElem?
  intro j
  rw [setList_get _ _ _ _ (by rw [hlen es hs, hc]; exact hb), hc]
  by_cases hj : j < es.length * s
  · have hs0 : 0 < s := Nat.pos_of_ne_zero (fun h => by rw [h] at hj; omega)
    have hq : j / s < es.length := (Nat.div_lt_iff_lt_mul hs0).2 hj
    have hr : j % s < s := Nat.mod_lt _ hs0
    have hjj : j = (j / s) * s + j % s := by rw [Nat.mul_comm]; exact (Nat.div_add_mod j s).symm
    by_cases hji : j / s = i
    · rw [if_pos (by rw [hji] at hjj; omega)]
      have hu := List.getElem?_eq_getElem (show j % s < cs.length by omega)
      have h1 := flatMap_get (·.1) s (es.set i (cs, fx)) hs' i (cs, fx) (j % s) _ (List.getElem?_set_self hi) hu
      rw [hji] at hjj
      rw [← hjj] at h1
      rw [h1, show j - i * s = j % s by omega, hu]
    · rw [if_neg (by
        intro h
        apply hji
        have h3 : j < (i + 1) * s := by rw [Nat.add_mul]; omega
        have h1 := (Nat.div_lt_iff_lt_mul hs0).2 h3
        have h2 := (Nat.le_div_iff_mul_le hs0).2 h.1
        omega)]
      have hy := List.getElem?_eq_getElem hq
      have hyl := hs _ (List.getElem_mem hq)
      have hu := List.getElem?_eq_getElem (show j % s < es[j / s].1.length by omega)
      have h1 := flatMap_get (·.1) s es hs (j / s) _ (j % s) _ hy hu
      have h2 := flatMap_get (·.1) s (es.set i (cs, fx)) hs' (j / s) _ (j % s) _ (by rw [List.getElem?_set_ne (Ne.symm hji)]; exact hy) hu
      rw [← hjj] at h1 h2
      rw [h1, h2]
  · rw [if_neg (by omega), List.getElem?_eq_none (by rw [hlen es hs]; omega), List.getElem?_eq_none (by rw [hlen _ hs', List.length_set]; omega)]
theorem SlOwn.set {g n c : Nat} (h : SlOwn E e w xs (.slice (some ⟨g, 0, none⟩) n c) fp) {i : Nat} (hi : i < xs.length) {x : α} {cs : List Value} {fx : List Nat} (hx : E.own w x cs fx)
    (hnd : fp.Nodup) (hxd : fx.Nodup) (hdis : ∀ b, b ∈ fx → b ∉ fp) :
    ∃ fp', SlOwn E e (setCells w g (i * E.size) cs) (xs.set i x) (.slice (some ⟨g, 0, none⟩) n c) fp' ∧ fp'.Nodup ∧ ∀ b, b ∈ fp' → b ∈ fp ∨ b ∈ fx := by
  obtain ⟨es, he, ho, rfl⟩ := h
  have hn : n = xs.length := by
    rcases ho.2 with ⟨h, _⟩ | ⟨g', cap, cur, h, _⟩
    · cases h
    · injection h
  subst hn
  have hie : i < es.length := by rw [he.1]; exact hi
  have hgx : g ∉ fx := fun hg => hdis g hg (by simp [Value.ownBlock])
  have hgn : ∀ y ∈ es, g ∉ y.2 := fun y hy hg => by
    simp only [Value.ownBlock, Option.toList_some, List.singleton_append, List.nodup_cons] at hnd
    exact hnd.1 (List.mem_flatMap.2 ⟨y, hy, hg⟩)
  have hsub : ∀ b, b ∈ (es.set i (cs, fx)).flatMap (·.2) → b ∈ es.flatMap (·.2) ∨ b ∈ fx := by
    intro b hb
    obtain ⟨y, hy, hb⟩ := List.mem_flatMap.1 hb
    rcases List.mem_or_eq_of_mem_set hy with h | rfl
    · exact .inl (List.mem_flatMap.2 ⟨y, h, hb⟩)
    · exact .inr hb
  refine ⟨_, ⟨es.set i (cs, fx), ⟨by rw [List.length_set, List.length_set, he.1], fun k y z hy hz => ?_⟩, ?_, rfl⟩, ?_, ?_⟩
  · by_cases hk : i = k
    · subst hk
      rw [List.getElem?_set_self hie] at hz
      rw [List.getElem?_set_self hi] at hy
      injection hy with hy; injection hz with hz
      subst hy; subst hz
      exact E.okeep hx fun b hb => setCells_heap g _ _ _ _ (fun e => hgx (e ▸ hb))
    · rw [List.getElem?_set_ne hk] at hz hy
      exact E.okeep (he.2 k y z hy hz) fun b hb => setCells_heap g _ _ _ _ (fun e => hgn z (List.mem_of_getElem? hz) (e ▸ hb))
  · rw [List.length_set, ← setList_elems E.size es i cs fx he.len (E.olen hx) hie]
    exact setCells_own g cs w _ _ ho
  · simp only [Value.ownBlock, Option.toList_some, List.singleton_append, List.nodup_cons] at hnd ⊢
    refine ⟨fun hg => (hsub g hg).elim hnd.1 hgx, ?_⟩
    have hd := hnd.2
    have e1 : es = es.take i ++ es[i] :: es.drop (i + 1) := by rw [← List.drop_eq_getElem_cons hie, List.take_append_drop]
    have e2 : es.set i (cs, fx) = es.take i ++ (cs, fx) :: es.drop (i + 1) := List.set_eq_take_append_cons_drop.trans (by rw [if_pos hie])
    rw [e1] at hd
    rw [e2]
    simp only [List.flatMap_append, List.flatMap_cons] at hd ⊢
    simp only [List.nodup_append] at hd ⊢
    have dis : ∀ b, b ∈ fx → b ∉ es.flatMap (·.2) := fun b hb hm => hdis b hb (List.mem_append_right _ hm)
    have m1 : ∀ b, b ∈ (es.take i).flatMap (·.2) → b ∈ es.flatMap (·.2) := fun b hb => by
      obtain ⟨y, hy, hb⟩ := List.mem_flatMap.1 hb
      exact List.mem_flatMap.2 ⟨y, List.mem_of_mem_take hy, hb⟩
    have m2 : ∀ b, b ∈ (es.drop (i + 1)).flatMap (·.2) → b ∈ es.flatMap (·.2) := fun b hb => by
      obtain ⟨y, hy, hb⟩ := List.mem_flatMap.1 hb
      exact List.mem_flatMap.2 ⟨y, List.mem_of_mem_drop hy, hb⟩
    refine ⟨hd.1, ⟨hxd, hd.2.1.2.1, fun a ha b hb hab => ?_⟩, fun a ha b hb hab => ?_⟩
    · subst hab; exact dis a ha (m2 a hb)
    · subst hab
      rcases List.mem_append.1 hb with hb | hb
      · exact dis a hb (m1 a ha)
      · exact hd.2.2 a ha a (List.mem_append_right _ hb) rfl
  · intro b hb
    rcases List.mem_append.1 hb with hb | hb
    · exact .inl (List.mem_append_left _ hb)
    · rcases hsub b hb with h | h
      · exact .inl (List.mem_append_right _ h)
      · exact .inr h
theorem SlOwn.frozen {g n c : Nat} (h : SlOwn E e w xs (.slice (some ⟨g, 0, none⟩) n c) fp) (j : Nat) : w.frozen? ⟨g, j, none⟩ = false := by
  obtain ⟨es, he, ho, _⟩ := h
  have hn : n = xs.length := by
    rcases ho.2 with ⟨h, _⟩ | ⟨g', cap, cur, h, _⟩
    · cases h
    · injection h
  subst hn
  exact ho.frozenAt j
theorem SlOwn.mem_block {g n c : Nat} (h : SlOwn E e w xs (.slice (some ⟨g, 0, none⟩) n c) fp) : g ∈ fp := by
  obtain ⟨es, he, ho, rfl⟩ := h
  simp [Value.ownBlock]
theorem SlOwn.push (h : SlOwn E e w xs v fp) {x : α} {cs : List Value} {fx : List Nat} (hx : E.own w x cs fx) (hnd : fp.Nodup) (hxd : fx.Nodup) (hdis : ∀ b, b ∈ fx → b ∉ fp) :
    ∃ l, w.ownsRow 0 e E.size v xs.length l ∧ ∀ v' w', w'.ownsRow 0 e E.size v' (xs.length + 1) (l ++ cs) → w.grownBy w' v.ownBlock → (v'.ownBlock = v.ownBlock ∨ v'.ownBlock = some w.heap.size) →
      ∃ fp', SlOwn E e w' (xs ++ [x]) v' fp' ∧ fp'.Nodup ∧ ∀ b, b ∈ fp' → b ∈ fp ∨ b ∈ fx ∨ b = w.heap.size := by
  have hlt := h.olt
  have hxlt := E.olt hx
  obtain ⟨es, he, ho, rfl⟩ := h
  refine ⟨_, ho, fun v' w' ho' hg hat => ?_⟩
  have hkeep : ∀ b, b ∈ es.flatMap (·.2) → w'.heap[b]? = w.heap[b]? := fun b hb => hg.block b (hlt b (List.mem_append_right _ hb)) (fun hv => by
    rw [List.nodup_append] at hnd
    exact hnd.2.2 b (by rw [← hv]; simp) b hb rfl)
  have hkx : ∀ b, b ∈ fx → w'.heap[b]? = w.heap[b]? := fun b hb => hg.block b (hxlt b hb) (fun hv => hdis b hb (List.mem_append_left _ (by rw [← hv]; simp)))
  refine ⟨_, ⟨es ++ [(cs, fx)], ⟨by simp [he.1], fun i y z hy hz => ?_⟩, ?_, rfl⟩, ?_, ?_⟩
  · by_cases hi : i < xs.length
    · rw [List.getElem?_append_left hi] at hy
      rw [List.getElem?_append_left (by rw [he.1]; exact hi)] at hz
      exact E.okeep (he.2 i y z hy hz) fun b hb => hkeep b (List.mem_flatMap.2 ⟨z, List.mem_of_getElem? hz, hb⟩)
    · rw [List.getElem?_append_right (by omega)] at hy
      rw [List.getElem?_append_right (by rw [he.1]; omega), he.1] at hz
      obtain rfl : i = xs.length := by
        have := (List.getElem?_eq_some_iff.1 hy).1
        simp at this; omega
      simp at hy hz
      subst hy; subst hz
      exact E.okeep hx hkx
  · simpa [List.flatMap_append] using ho'
  · have hvn : ∀ b, b ∈ v'.ownBlock.toList → b ∉ es.flatMap (·.2) ∧ b ∉ fx := fun b hb => by
      rcases hat with hat | hat
      · rw [hat] at hb
        rw [List.nodup_append] at hnd
        exact ⟨fun hm => hnd.2.2 b hb b hm rfl, fun hm => hdis b hm (List.mem_append_left _ hb)⟩
      · rw [hat] at hb
        simp at hb
        subst hb
        exact ⟨fun hm => by have := hlt _ (List.mem_append_right _ hm); omega, fun hm => by have := hxlt _ hm; omega⟩
    have h1 : v'.ownBlock.toList.Nodup := by cases v'.ownBlock <;> simp
    rw [List.nodup_append] at hnd ⊢
    refine ⟨h1, ?_, fun a ha b hb hab => ?_⟩
    · rw [List.flatMap_append, List.nodup_append]
      exact ⟨hnd.2.1, by simpa using hxd, fun a ha b hb hab => by
        subst hab
        simp at hb
        exact hdis a hb (List.mem_append_right _ ha)⟩
    · subst hab
      rw [List.flatMap_append] at hb
      rcases List.mem_append.1 hb with hb | hb
      · exact (hvn a ha).1 hb
      · simp at hb; exact (hvn a ha).2 hb
  · intro b hb
    rcases List.mem_append.1 hb with hb | hb
    · rcases hat with hat | hat
      · rw [hat] at hb
        exact .inl (List.mem_append_left _ hb)
      · rw [hat] at hb
        simp at hb
        exact .inr (.inr hb)
    · rw [List.flatMap_append] at hb
      rcases List.mem_append.1 hb with hb | hb
      · exact .inl (List.mem_append_right _ hb)
      · simp at hb; exact .inr (.inl hb)
end
theorem takeRep_set {α : Type} {l : List α} {n k : Nat} {x z : α} (hn : l.length = n) (hk : k < n) (hx : l[k]? = some x) :
    (l.take k ++ List.replicate (n - k) z).set k x = l.take (k + 1) ++ List.replicate (n - (k + 1)) z := by
  have hl : (l.take k).length = k := by rw [List.length_take]; omega
  have hkl : k < l.length := by omega
  rw [List.set_append, if_neg (by omega), hl, Nat.sub_self, show n - k = (n - (k + 1)) + 1 by omega, List.replicate_succ, List.set_cons_zero, List.take_succ_eq_append_getElem hkl, List.append_assoc]
  rw [List.getElem?_eq_getElem hkl] at hx
  injection hx with hx
  rw [hx]
  rfl
theorem takeRep_end {α : Type} {l : List α} {n k : Nat} {z : α} (hn : l.length = n) (hk : n ≤ k) : l.take k ++ List.replicate (n - k) z = l := by
  rw [List.take_of_length_le (by omega), show n - k = 0 by omega]; simp
theorem takeRep_len {α : Type} {l : List α} {n k : Nat} {z : α} (hn : l.length = n) (hk : k ≤ n) : (l.take k ++ List.replicate (n - k) z).length = n := by
  rw [List.length_append, List.length_take, List.length_replicate]; omega
def NewSl {α : Type} (E : Rep α) (t : TypeId) (w : World) (l : List α) (e : Ending) (w' : World) : Prop :=
  ∃ A n c fp, e = .returned (.slice A n c) ∧ SlOwn E t w' l (.slice A n c) fp ∧ fp.Nodup ∧ (∀ b, b ∈ fp → w.heap.size ≤ b) ∧ Below w.heap.size w w'
def Filled {α : Type} (E : Rep α) (t : TypeId) (w : World) (l : List α) (z : α) (n k : Nat) (wr : World) : Prop :=
  Below w.heap.size w wr ∧ l.length = n ∧ ∃ fp, SlOwn E t wr (l.take k ++ List.replicate (n - k) z) (.slice (some ⟨w.heap.size, 0, none⟩) n n) fp ∧ fp.Nodup ∧ ∀ b, b ∈ fp → w.heap.size ≤ b
section
variable {α : Type} {E : Rep α} {t : TypeId} {w wr w1 : World} {l : List α} {z : α} {n k : Nat}
theorem Filled.start {zv : Value} (hl : l.length = n) (hown : w1.ownsRow 0 t E.size (.slice (some ⟨w.heap.size, 0, none⟩) n n) n (madeCells zv.cells (n * E.size)).toList) (hg : w.grownBy w1 none) (hz : E.own w1 z zv.cells.toList []) (h0 : 0 < E.size) : Filled E t w l z n 0 w1 := by
  refine ⟨(Below.refl _ _).grown hg (Nat.le_refl _) (fun k h => by cases h), hl, [w.heap.size], ?_, ?_, ?_⟩
  · have := SlOwn.made hown hz h0
    simpa [Value.ownBlock] using this
  · simp
  · simp
theorem Filled.below (h : Filled E t w l z n k wr) : Below w.heap.size w wr := h.1
theorem Filled.lt (h : Filled E t w l z n k wr) : w.heap.size < wr.heap.size := by
  obtain ⟨_, _, fp, hs, _⟩ := h
  exact hs.olt _ hs.mem_block
theorem Filled.keep (h : Filled E t w l z n k wr) (hb : Below wr.heap.size wr w1) : Filled E t w l z n k w1 := by
  obtain ⟨h1, h2, fp, hs, hr⟩ := h
  exact ⟨h1.trans (hb.mono h1.size), h2, fp, hs.okeep fun b hb' => hb.block b (hs.olt b hb'), hr⟩
theorem Filled.cell (h : Filled E t w l z n k wr) (hk : k < n) {j : Nat} (hj : j < E.size) : ∃ u, wr.cell? ⟨w.heap.size, k * E.size + j, none⟩ = some u := by
  obtain ⟨h1, h2, fp, hs, _⟩ := h
  have hw := hs.weak (B := wr.heap.size) (fun b hb => hs.olt b hb)
  obtain ⟨x, cs, _, _, ha, hc⟩ := hw.get' hk
  have hl := E.len ha
  have := hc j _ (List.getElem?_eq_getElem (by omega))
  rw [Nat.zero_add] at this
  exact ⟨_, this⟩
theorem Filled.frozen (h : Filled E t w l z n k wr) (j : Nat) : wr.frozen? ⟨w.heap.size, j, none⟩ = false := by
  obtain ⟨h1, h2, fp, hs, _⟩ := h
  exact hs.frozen j
theorem Filled.step (h : Filled E t w l z n k wr) (hk : k < n) {x : α} {cs : List Value} {fx : List Nat} (hlx : l[k]? = some x) (hb : Below wr.heap.size wr w1) (hx : E.own w1 x cs fx) (hxd : fx.Nodup) (hxf : ∀ b, b ∈ fx → wr.heap.size ≤ b) :
    Filled E t w l z n (k + 1) (setCells w1 w.heap.size (k * E.size) cs) := by
  have hlt := h.lt
  obtain ⟨h1, h2, fp, hs, hnd, hfr⟩ := h
  have hs1 := hs.okeep (w' := w1) fun b hb' => hb.block b (hs.olt b hb')
  have hln := takeRep_len (z := z) h2 (Nat.le_of_lt hk)
  obtain ⟨fp', hs', hnd', hsub⟩ := hs1.set (i := k) (by rw [hln]; exact hk) hx hnd hxd (fun b hb hm => by have := hxf b hb; have := hs.olt b hm; omega)
  rw [takeRep_set h2 hk hlx] at hs'
  refine ⟨?_, h2, fp', hs', hnd', fun b hb => ?_⟩
  · exact (h1.trans (hb.mono h1.size)).grown (setCells_grown _ _ _ _) (Nat.le_trans h1.size hb.size) (fun k hk => by injection hk with hk; omega)
  · rcases hsub b hb with h | h
    · exact hfr b h
    · have := hxf b h; omega
theorem Filled.done (h : Filled E t w l z n k wr) (hk : n ≤ k) : NewSl E t w l (.returned (.slice (some ⟨w.heap.size, 0, none⟩) n n)) wr := by
  obtain ⟨h1, h2, fp, hs, hnd, hfr⟩ := h
  rw [takeRep_end h2 hk] at hs
  exact ⟨_, _, _, fp, rfl, hs, hnd, hfr, h1⟩
end
end Mm
end Go.Proofs.YtbhmdnjammnlnaaGreatDoor

namespace Go.Proofs.YtbhmdnjammnlnaaGreatDoor
open Go.RowKit
namespace Mm
def Blk (w : World) (g : Nat) (t : TypeId) (cs : List Value) : Prop := w.heap[g]? = some (.cells cs.toArray t (0, 0))
section
variable {w w' : World} {g : Nat} {t : TypeId} {cs : List Value}
theorem Blk.lt (h : Blk w g t cs) : g < w.heap.size := by
  rcases Nat.lt_or_ge g w.heap.size with hlt | hge
  · exact hlt
  · unfold Blk at h; rw [Array.getElem?_eq_none hge] at h; cases h
theorem Blk.cell (h : Blk w g t cs) {i : Nat} {u : Value} (hu : cs[i]? = some u) : w.cell? ⟨g, i, none⟩ = some u := by
  rw [cell_of_row w g i _ t (0, 0) h]; simpa using hu
theorem Blk.frozen (h : Blk w g t cs) (i : Nat) : w.frozen? ⟨g, i, none⟩ = false := frozen_of_row w g i _ t h
theorem Blk.new (w : World) (t : TypeId) (cs : List Value) : Blk (w.alloc (.cells cs.toArray t)) w.heap.size t cs := heap_alloc_new w _
theorem sz1 (w : World) (o : Obj) : (w.alloc o).heap.size = w.heap.size + 1 := by simp
theorem heap_new (w : World) {g : Nat} (h : w.heap.size = g) (o : Obj) : (w.alloc o).heap[g]? = some o := by subst h; exact heap_alloc_new w o
theorem Blk.new' (w : World) (t : TypeId) (cs : List Value) {g : Nat} (h : w.heap.size = g) : Blk (w.alloc (.cells cs.toArray t)) g t cs := heap_new w h _
theorem Blk.keep (h : Blk w g t cs) (k : w'.heap[g]? = w.heap[g]?) : Blk w' g t cs := k.trans h
theorem Blk.alloc (h : Blk w g t cs) (o : Obj) : Blk (w.alloc o) g t cs := h.keep (Below.heap_alloc w o g h.lt)
theorem Blk.below {B : Nat} (h : Blk w g t cs) (hb : Below B w w') (hg : g < B) : Blk w' g t cs := h.keep (hb.block g hg)
theorem Blk.bel (h : Blk w g t cs) (hb : Below w.heap.size w w') : Blk w' g t cs := h.keep (hb.block g h.lt)
theorem Blk.set_ (h : Blk w g t cs) (i : Nat) (u : Value) : Blk (w.setCell ⟨g, i, none⟩ u) g t (cs.set i u) := by
  unfold Blk at h ⊢
  have := heap_setCell_same w g i _ t u h
  rw [this]; simp
theorem Blk.grown {row : Option Nat} (h : Blk w g t cs) (hb : w.grownBy w' row) (hg : some g ≠ row) : Blk w' g t cs := h.keep (hb.block g h.lt hg)
end
structure Chg (fp : List Nat) (w w' : World) : Prop where
  os : w'.os = w.os
  tape : w'.tape = w.tape
  output : w'.output = w.output
  size : w.heap.size ≤ w'.heap.size
  block : ∀ k, k < w.heap.size → k ∉ fp → w'.heap[k]? = w.heap[k]?
section
variable {fp : List Nat} {a b c : World} {B : Nat}
theorem Chg.refl (fp : List Nat) (w : World) : Chg fp w w := ⟨rfl, rfl, rfl, Nat.le_refl _, fun _ _ _ => rfl⟩
theorem Chg.trans (h : Chg fp a b) (k : Chg fp b c) : Chg fp a c := ⟨k.os.trans h.os, k.tape.trans h.tape, k.output.trans h.output, Nat.le_trans h.size k.size, fun i hi hn => (k.block i (Nat.lt_of_lt_of_le hi h.size) hn).trans (h.block i hi hn)⟩
theorem Chg.of_below (h : Below a.heap.size a b) : Chg fp a b := ⟨h.os, h.tape, h.output, h.size, fun i hi _ => h.block i hi⟩
theorem Chg.more {fp' : List Nat} (h : Chg fp a b) (k : ∀ x, x ∈ fp → x ∈ fp') : Chg fp' a b := ⟨h.os, h.tape, h.output, h.size, fun i hi hn => h.block i hi (fun hx => hn (k i hx))⟩
theorem Chg.setCell (h : Chg fp a b) {p : Addr} (hp : p.block ∈ fp) (u : Value) : Chg fp a (b.setCell p u) :=
  h.trans ⟨rfl, rfl, rfl, by simp [World.setCell], fun i _ hn => Below.heap_setCell _ _ _ _ (fun e => hn (e ▸ hp))⟩
theorem Below.chg (h : Below B a b) (k : Chg fp b c) (hB : B ≤ b.heap.size) (hf : ∀ x, x ∈ fp → B ≤ x) : Below B a c :=
  h.trans ⟨k.os, k.tape, k.output, k.size, fun i hi => k.block i (by omega) (fun hx => by have := hf i hx; omega)⟩
end
theorem SlOwn.of_blk {α : Type} {E : Rep α} {e : TypeId} {w : World} {g : Nat} {xs : List α} {n : Nat} (enc : α → List Value) (h : Blk w g e (xs.flatMap enc)) (hE : ∀ x, x ∈ xs → E.own w x (enc x) []) (hl : xs.length = n) (hn : n ≤ maxLen) :
    SlOwn E e w xs (.slice (some ⟨g, 0, none⟩) n n) [g] := by
  subst hl
  have h1 : ∀ l : List α, (l.map fun x => (enc x, ([] : List Nat))).flatMap (·.1) = l.flatMap enc := fun l => by simp [List.flatMap_map]
  have h2 : ∀ l : List α, (l.map fun x => (enc x, ([] : List Nat))).flatMap (·.2) = [] := fun l => by simp [List.flatMap_map]
  have h3 : ∀ l : List α, (∀ x, x ∈ l → E.own w x (enc x) []) → (l.flatMap enc).length = l.length * E.size := fun l => by
    induction l with
    | nil => intro _; simp
    | cons a t ih =>
      intro hh
      rw [List.flatMap_cons, List.length_append, ih (fun x hx => hh x (by simp [hx])), E.olen (hh a (by simp)), List.length_cons, Nat.add_mul]; omega
  refine ⟨xs.map fun x => (enc x, []), ⟨by simp, fun i x y hx hy => ?_⟩, ?_, by rw [h2]; simp [Value.ownBlock]⟩
  · rw [List.getElem?_map, hx] at hy
    simp at hy
    subst hy
    exact hE x (List.mem_of_getElem? hx)
  · rw [h1]
    refine ⟨h3 xs hE, .inr ⟨g, xs.length, _, rfl, Nat.zero_le _, h, Nat.le_refl _, hn, by simpa using h3 xs hE, ?_⟩⟩
    rw [List.take_of_length_le (by simp [h3 xs hE])]
def Ret2 {α : Type} (R : Rep α) (w : World) (x : α) (b : Bool) (e : Ending) (w' : World) : Prop :=
  ∃ cs fp, e = .returned (.tuple #[.agg cs.toArray, .bool b]) ∧ R.own w' x cs fp ∧ fp.Nodup ∧ (∀ k, k ∈ fp → w.heap.size ≤ k) ∧ Below w.heap.size w w'
def NewAg {α : Type} (R : Rep α) (w : World) (x : α) (e : Ending) (w' : World) : Prop :=
  ∃ cs fp, e = .returned (.agg cs.toArray) ∧ R.own w' x cs fp ∧ fp.Nodup ∧ (∀ k, k ∈ fp → w.heap.size ≤ k) ∧ Below w.heap.size w w'
end Mm
end Go.Proofs.YtbhmdnjammnlnaaGreatDoor

namespace Go.Proofs.YtbhmdnjammnlnaaGreatDoor
open Go.RowKit
namespace Mm
def Acc {α : Type} (E : Rep α) (t : TypeId) (w : World) (xs : List α) (v : Value) (wr : World) : Prop :=
  ∃ fp, SlOwn E t wr xs v fp ∧ fp.Nodup ∧ (∀ b, b ∈ fp → w.heap.size ≤ b) ∧ Below w.heap.size w wr
section
variable {α : Type} {E : Rep α} {t : TypeId} {w wr W2 : World} {xs : List α} {v : Value}
theorem Acc.nil (h : Below w.heap.size w wr) : Acc E t w [] (.slice none 0 0) wr := ⟨[], SlOwn.nil, List.nodup_nil, (fun b hb => by cases hb), h⟩
theorem Acc.bel (h : Acc E t w xs v wr) : Below w.heap.size w wr := by obtain ⟨_, _, _, _, hb⟩ := h; exact hb
theorem Acc.row (h : Acc E t w xs v wr) : ∀ k, v.ownBlock = some k → w.heap.size ≤ k ∧ k < wr.heap.size := by
  obtain ⟨fp, h1, h2, h3, h4⟩ := h
  have h5 := h1.olt
  obtain ⟨es, _, _, rfl⟩ := h1
  intro k hk
  have hm : k ∈ v.ownBlock.toList ++ es.flatMap (·.2) := List.mem_append_left _ (by rw [hk]; simp)
  exact ⟨h3 k hm, h5 k hm⟩
theorem Acc.addr {A : Option Addr} {n c : Nat} (h : Acc E t w xs (.slice A n c) wr) (h0 : 0 < xs.length) : ∃ g, A = some ⟨g, 0, none⟩ ∧ w.heap.size ≤ g ∧ g < wr.heap.size := by
  have hr := h.row
  obtain ⟨fp, h1, h2, h3, h4⟩ := h
  obtain ⟨es, he, ho, rfl⟩ := h1
  obtain ⟨g, cap, hf, _⟩ := ho.form h0
  injection hf with hA
  subst hA
  exact ⟨g, rfl, hr g rfl⟩
theorem Acc.frozen {g n c : Nat} (h : Acc E t w xs (.slice (some ⟨g, 0, none⟩) n c) wr) (j : Nat) : wr.frozen? ⟨g, j, none⟩ = false := by
  obtain ⟨fp, h1, h2, h3, h4⟩ := h
  exact h1.frozen j
theorem Acc.step (h : Acc E t w xs v wr) (hb : Below wr.heap.size wr W2) : Acc E t w xs v W2 := by
  obtain ⟨fp, h1, h2, h3, h4⟩ := h
  exact ⟨fp, h1.okeep fun b hb' => hb.block b (h1.olt b hb'), h2, h3, below_step h4 hb⟩
theorem Acc.form (h : Acc E t w xs v wr) : ∃ A n c, v = .slice A n c ∧ n = xs.length ∧ n ≤ c ∧ c ≤ maxLen ∧ (A = none → c = 0) := by
  obtain ⟨_, h1, _⟩ := h; exact h1.form
theorem Acc.at_ {A : Option Addr} {n c : Nat} (h : Acc E t w xs (.slice A n c) wr) : SlAt E wr wr.heap.size xs A n c := by
  obtain ⟨fp, h1, h2, h3, h4⟩ := h
  exact h1.weak h1.olt
theorem Acc.push (h : Acc E t w xs v wr) (hb2 : Below wr.heap.size wr W2) {x : α} {cx : List Value} {fx : List Nat} (hx : E.own W2 x cx fx) (hxd : fx.Nodup) (hxf : ∀ b, b ∈ fx → wr.heap.size ≤ b) :
    ∃ l, W2.ownsRow 0 t E.size v xs.length l ∧ ∀ gg cap w1, w1.ownsRow 0 t E.size (.slice (some ⟨gg, 0, none⟩) (xs.length + 1) cap) (xs.length + 1) (l ++ cx) → W2.grownBy w1 v.ownBlock → (v.ownBlock = some gg ∨ gg = W2.heap.size) →
      Acc E t w (xs ++ [x]) (.slice (some ⟨gg, 0, none⟩) (xs.length + 1) cap) w1 := by
  obtain ⟨fp, h1, h2, h3, h4⟩ := h
  have hown2 := h1.okeep (w' := W2) fun b hb => hb2.block b (h1.olt b hb)
  obtain ⟨l, ho2, hnext⟩ := hown2.push hx h2 hxd (fun b hb hm => by have := hxf b hb; have := h1.olt b hm; omega)
  refine ⟨l, ho2, fun gg cap w1 k1 k2 k3 => ?_⟩
  obtain ⟨fp', h5, h6, h7⟩ := hnext _ w1 k1 k2 (k3.elim (fun h => .inl h.symm) (fun h => .inr (by rw [h]; rfl)))
  have hs := h4.size
  have hs2 := hb2.size
  refine ⟨fp', h5, h6, fun b hb => ?_, (below_step h4 hb2).grown k2 (by omega) (fun k hk => h3 k ?_)⟩
  · rcases h7 b hb with h | h | h
    · exact h3 b h
    · have := hxf b h; omega
    · omega
  · obtain ⟨es, _, _, rfl⟩ := h1
    exact List.mem_append_left _ (by rw [hk]; simp)
end
end Mm
end Go.Proofs.YtbhmdnjammnlnaaGreatDoor

namespace Go.Proofs.YtbhmdnjammnlnaaGreatDoor
open Go.RowKit
namespace Mm
def mkL {α : Type} (mk : α → Int → α) (cnt : α → Int) : List α → Int → List α
  | [], _ => []
  | x :: t, k => mk x k :: mkL mk cnt t (k + cnt x)
def cntL {α : Type} (cnt : α → Int) : List α → Int
  | [] => 0
  | x :: t => cnt x + cntL cnt t
section
variable {α : Type} {mk : α → Int → α} {cnt : α → Int}
theorem cntL_cons (x : α) (t : List α) : cntL cnt (x :: t) = cnt x + cntL cnt t := rfl
theorem take_succ_some {l : List α} {i : Nat} {x : α} (h : l[i]? = some x) : l.take (i + 1) = l.take i ++ [x] := by
  have hi : i < l.length := (List.getElem?_eq_some_iff.1 h).1
  rw [List.take_succ_eq_append_getElem hi]
  rw [List.getElem?_eq_getElem hi] at h
  injection h with h
  rw [h]
def half (mk : α → Int → α) (cnt : α → Int) (l : List α) (k : Int) (i : Nat) : List α := mkL mk cnt (l.take i) k ++ l.drop i
theorem half_zero (l : List α) (k : Int) : half mk cnt l k 0 = l := by simp [half, mkL]
theorem half_end {l : List α} {k : Int} {i : Nat} (h : l.length ≤ i) : half mk cnt l k i = mkL mk cnt l k := by
  unfold half; rw [List.take_of_length_le h, List.drop_eq_nil_of_le h, List.append_nil]
end
section
variable {α : Type} {E : Rep α} {e : TypeId} {w w' : World} {xs : List α} {fp : List Nat}
theorem SlOwn.store {g n c : Nat} (h : SlOwn E e w xs (.slice (some ⟨g, 0, none⟩) n c) fp) (hnd : fp.Nodup) {i j : Nat} {x x' : α} {u : Value} (hi : xs[i]? = some x) (hj : j < E.size)
    (hx : ∀ cs fx, E.own w x cs fx → E.own w x' (cs.set j u) fx) : SlOwn E e (w.setCell ⟨g, i * E.size + j, none⟩ u) (xs.set i x') (.slice (some ⟨g, 0, none⟩) n c) fp := by
  obtain ⟨es, he, ho, rfl⟩ := h
  have hn : n = xs.length := by
    rcases ho.2 with ⟨h, _⟩ | ⟨g', cap, cur, h, _⟩
    · cases h
    · injection h
  subst hn
  have hil : i < xs.length := (List.getElem?_eq_some_iff.1 hi).1
  have hie : i < es.length := by rw [he.1]; exact hil
  have hy := List.getElem?_eq_getElem hie
  have hown := he.2 i x _ hi hy
  have hgn : ∀ y ∈ es, g ∉ y.2 := fun y hy hg => by
    simp only [Value.ownBlock, Option.toList_some, List.singleton_append, List.nodup_cons] at hnd
    exact hnd.1 (List.mem_flatMap.2 ⟨y, hy, hg⟩)
  have hk : ∀ b, b ≠ g → (w.setCell ⟨g, i * E.size + j, none⟩ u).heap[b]? = w.heap[b]? := fun b hb => Below.heap_setCell _ _ _ _ hb
  have hnew : E.own w x' (es[i].1.set j u) es[i].2 := hx _ _ hown
  have hes2 : (es.set i (es[i].1.set j u, es[i].2)).flatMap (·.2) = es.flatMap (·.2) := by
    have e2 : es.set i (es[i].1.set j u, es[i].2) = es.take i ++ (es[i].1.set j u, es[i].2) :: es.drop (i + 1) := List.set_eq_take_append_cons_drop.trans (by rw [if_pos hie])
    have e1 : es = es.take i ++ es[i] :: es.drop (i + 1) := by rw [← List.drop_eq_getElem_cons hie, List.take_append_drop]
    have e3 := congrArg (List.flatMap (·.2)) e1
    rw [List.flatMap_append, List.flatMap_cons] at e3
    rw [e2, List.flatMap_append, List.flatMap_cons]
    exact e3.symm
  refine ⟨es.set i (es[i].1.set j u, es[i].2), ⟨by rw [List.length_set, List.length_set, he.1], fun k y z hy hz => ?_⟩, ?_, by rw [hes2]⟩
  · by_cases hki : i = k
    · subst hki
      rw [List.getElem?_set_self hie] at hz
      rw [List.getElem?_set_self hil] at hy
      injection hy with hy; injection hz with hz
      subst hy; subst hz
      exact E.okeep hnew fun b hb => hk b (fun e => hgn _ (List.getElem_mem hie) (e ▸ hb))
    · rw [List.getElem?_set_ne hki] at hz hy
      exact E.okeep (he.2 k y z hy hz) fun b hb => hk b (fun e => hgn z (List.mem_of_getElem? hz) (e ▸ hb))
  · rw [List.length_set]
    have h1 := (ho.stored (i * E.size + j) u).1
    have hll := setList_elems E.size es i (es[i].1.set j u) es[i].2 he.len (by rw [List.length_set]; exact E.olen hown) hie
    rw [← hll]
    have hs : setList (es.flatMap (·.1)) (i * E.size) (es[i].1.set j u) = (es.flatMap (·.1)).set (i * E.size + j) u := by
      have hlen : (es.flatMap (·.1)).length = xs.length * E.size := ho.1
      have hle : i * E.size + E.size ≤ xs.length * E.size := by
        have := Nat.mul_le_mul_right E.size (show i + 1 ≤ xs.length by omega)
        rw [Nat.add_mul] at this; omega
      have hol := E.olen hown
      apply List.ext_getElem?
      intro k
      rw [setList_get _ _ _ _ (by rw [List.length_set, hol, hlen]; exact hle), List.length_set, hol]
      by_cases hkk : i * E.size ≤ k ∧ k < i * E.size + E.size
      · rw [if_pos hkk]
        by_cases hkj : k = i * E.size + j
        · subst hkj
          rw [show i * E.size + j - i * E.size = j by omega, List.getElem?_set_self (by omega), List.getElem?_set_self (by omega)]
        · rw [List.getElem?_set_ne (by omega), List.getElem?_set_ne (by omega)]
          have hu := List.getElem?_eq_getElem (show k - i * E.size < es[i].1.length by omega)
          have := flatMap_get (·.1) E.size es he.len i _ (k - i * E.size) _ hy hu
          rw [show i * E.size + (k - i * E.size) = k by omega] at this
          rw [this, hu]
      · rw [if_neg hkk, List.getElem?_set_ne (by omega)]
    rw [hs]
    exact h1
theorem SlOwn.inner {g n c : Nat} (h : SlOwn E e w xs (.slice (some ⟨g, 0, none⟩) n c) fp) (hnd : fp.Nodup) {i : Nat} {x : α} (hi : xs[i]? = some x) :
    ∃ cs fx, E.own w x cs fx ∧ fx.Nodup ∧ (∀ b, b ∈ fx → b ∈ fp ∧ b ≠ g) ∧ (∀ j u, cs[j]? = some u → w.cell? ⟨g, i * E.size + j, none⟩ = some u) ∧
      ∀ w' x' fx', Chg fx w w' → E.own w' x' cs fx' → fx'.Nodup → (∀ b, b ∈ fx' → b ∈ fx) → ∃ fp', SlOwn E e w' (xs.set i x') (.slice (some ⟨g, 0, none⟩) n c) fp' ∧ fp'.Nodup ∧ ∀ b, b ∈ fp' → b ∈ fp := by
  obtain ⟨es, he, ho, rfl⟩ := h
  have hn : n = xs.length := by
    rcases ho.2 with ⟨h, _⟩ | ⟨g', cap, cur, h, _⟩
    · cases h
    · injection h
  subst hn
  have hil : i < xs.length := (List.getElem?_eq_some_iff.1 hi).1
  have hie : i < es.length := by rw [he.1]; exact hil
  have hy := List.getElem?_eq_getElem hie
  have hown := he.2 i x _ hi hy
  simp only [Value.ownBlock, Option.toList_some, List.singleton_append, List.nodup_cons] at hnd
  have hgn : ∀ y ∈ es, g ∉ y.2 := fun y hy hg => hnd.1 (List.mem_flatMap.2 ⟨y, hy, hg⟩)
  have e1 : es = es.take i ++ es[i] :: es.drop (i + 1) := by rw [← List.drop_eq_getElem_cons hie, List.take_append_drop]
  have hd := hnd.2
  rw [e1] at hd
  simp only [List.flatMap_append, List.flatMap_cons, List.nodup_append] at hd
  have hmem : ∀ b, b ∈ es[i].2 → b ∈ es.flatMap (·.2) := fun b hb => List.mem_flatMap.2 ⟨_, List.getElem_mem hie, hb⟩
  refine ⟨es[i].1, es[i].2, hown, hd.2.1.1, fun b hb => ⟨List.mem_append_right _ (hmem b hb), fun e => hgn _ (List.getElem_mem hie) (e ▸ hb)⟩, fun j u hu => ?_, fun w' x' fx' hc hx' hxn hxs => ?_⟩
  · have := ho.cells (g := g) rfl (i * E.size + j) u (flatMap_get (·.1) E.size es he.len i _ j u hy hu)
    rw [add0] at this
    exact this
  · have m1 : ∀ y, y ∈ es.take i → ∀ b, b ∈ y.2 → b ∉ es[i].2 := fun y hy b hb hm => hd.2.2 b (List.mem_flatMap.2 ⟨y, hy, hb⟩) b (List.mem_append_left _ hm) rfl
    have m2 : ∀ y, y ∈ es.drop (i + 1) → ∀ b, b ∈ y.2 → b ∉ es[i].2 := fun y hy b hb hm => hd.2.1.2.2 b hm b (List.mem_flatMap.2 ⟨y, hy, hb⟩) rfl
    have e2 : es.set i (es[i].1, fx') = es.take i ++ (es[i].1, fx') :: es.drop (i + 1) := List.set_eq_take_append_cons_drop.trans (by rw [if_pos hie])
    have hfl : (es.set i (es[i].1, fx')).flatMap (·.1) = es.flatMap (·.1) := by
      have e3 := congrArg (List.flatMap (·.1)) e1
      rw [List.flatMap_append, List.flatMap_cons] at e3
      rw [e2, List.flatMap_append, List.flatMap_cons]
      exact e3.symm
    have hsub : ∀ b, b ∈ (es.set i (es[i].1, fx')).flatMap (·.2) → b ∈ es.flatMap (·.2) := by
      intro b hb
      obtain ⟨y, hy, hb⟩ := List.mem_flatMap.1 hb
      rcases List.mem_or_eq_of_mem_set hy with h | rfl
      · exact List.mem_flatMap.2 ⟨y, h, hb⟩
      · exact hmem b (hxs b hb)
    have hlt : g < w.heap.size := by
      have := ho.lt g (by simp [Value.ownBlock])
      exact this.2
    refine ⟨_, ⟨es.set i (es[i].1, fx'), ⟨by rw [List.length_set, List.length_set, he.1], fun k y z hy hz => ?_⟩, ⟨?_, ?_⟩, rfl⟩, ?_, ?_⟩
    · by_cases hki : i = k
      · subst hki
        rw [List.getElem?_set_self hie] at hz
        rw [List.getElem?_set_self hil] at hy
        injection hy with hy; injection hz with hz
        subst hy; subst hz
        exact hx'
      · rw [List.getElem?_set_ne hki] at hz hy
        have hk := he.2 k y z hy hz
        refine E.okeep hk fun b hb => hc.block b (E.olt hk b hb) ?_
        have hkl : k < es.length := (List.getElem?_eq_some_iff.1 hz).1
        rcases Nat.lt_or_gt_of_ne hki with h | h
        · refine m2 z (List.mem_of_getElem? (i := k - (i + 1)) ?_) b hb
          rw [List.getElem?_drop, show i + 1 + (k - (i + 1)) = k by omega]
          exact hz
        · refine m1 z (List.mem_of_getElem? (i := k) ?_) b hb
          rw [List.getElem?_take, if_pos h]
          exact hz
    · rw [hfl, List.length_set]; exact ho.1
    · rw [hfl, List.length_set]
      rcases ho.2 with h | ⟨g', cap, cur, hv, h1, h2, h3⟩
      · exact .inl h
      · injection hv with hA _ hcap
        subst hcap
        injection hA with hA
        injection hA with hA
        subst hA
        exact .inr ⟨g, _, cur, rfl, h1, (hc.block g hlt (hgn _ (List.getElem_mem hie))).trans h2, h3⟩
    · simp only [Value.ownBlock, Option.toList_some, List.singleton_append, List.nodup_cons]
      refine ⟨fun hg => hnd.1 (hsub g hg), ?_⟩
      rw [e2]
      simp only [List.flatMap_append, List.flatMap_cons, List.nodup_append]
      refine ⟨hd.1, ⟨hxn, hd.2.1.2.1, fun a ha b hb hab => ?_⟩, fun a ha b hb hab => ?_⟩
      · exact hd.2.1.2.2 a (hxs a ha) b hb hab
      · rcases List.mem_append.1 hb with hb | hb
        · exact hd.2.2 a ha b (List.mem_append_left _ (hxs b hb)) hab
        · exact hd.2.2 a ha b (List.mem_append_right _ hb) hab
    · intro b hb
      rcases List.mem_append.1 hb with hb | hb
      · exact List.mem_append_left _ hb
      · exact List.mem_append_right _ (hsub b hb)
end
def MkAt {α : Type} (E : Rep α) (t : TypeId) (mk : α → Int → α) (cnt : α → Int) (w : World) (l : List α) (v : Value) (fp : List Nat) (k : Int) (i : Nat) (wr : World) : Prop :=
  Chg fp w wr ∧ ∃ fp', SlOwn E t wr (half mk cnt l k i) v fp' ∧ fp'.Nodup ∧ ∀ b, b ∈ fp' → b ∈ fp
def MkRet {α : Type} (E : Rep α) (t : TypeId) (mk : α → Int → α) (cnt : α → Int) (w : World) (l : List α) (v : Value) (fp : List Nat) (k : Int) (e : Ending) (w' : World) : Prop :=
  e = .returned (.int .i64 (k + cntL cnt l)) ∧ Chg fp w w' ∧ ∃ fp', SlOwn E t w' (mkL mk cnt l k) v fp' ∧ fp'.Nodup ∧ ∀ b, b ∈ fp' → b ∈ fp
section
variable {α : Type} {E : Rep α} {t : TypeId} {mk : α → Int → α} {cnt : α → Int} {w wr : World} {l : List α} {v : Value} {fp : List Nat} {k : Int} {i : Nat}
theorem MkAt.start (h : SlOwn E t w l v fp) (hnd : fp.Nodup) : MkAt E t mk cnt w l v fp k 0 w := ⟨Chg.refl _ _, fp, by rw [half_zero]; exact h, hnd, fun b hb => hb⟩
theorem MkAt.done (h : MkAt E t mk cnt w l v fp k i wr) (hi : l.length ≤ i) : MkRet E t mk cnt w l v fp k (.returned (.int .i64 (k + cntL cnt (l.take i)))) wr := by
  obtain ⟨h1, fp', h2, h3, h4⟩ := h
  rw [half_end hi] at h2
  rw [List.take_of_length_le hi]
  exact ⟨rfl, h1, fp', h2, h3, h4⟩
end
end Mm
end Go.Proofs.YtbhmdnjammnlnaaGreatDoor

namespace Go.Proofs.YtbhmdnjammnlnaaGreatDoor
open Go.RowKit
namespace Mm
theorem flatMap_inv {β γ : Type} (f : β → List γ) (s : Nat) : ∀ (l : List β), (∀ y ∈ l, (f y).length = s) → ∀ (j : Nat) (u : γ), (l.flatMap f)[j]? = some u → ∃ i r y, j = i * s + r ∧ l[i]? = some y ∧ (f y)[r]? = some u
  | [], _, j, u, h => by simp at h
  | z :: t, hl, j, u, h => by
    have hz := hl z (by simp)
    rw [List.flatMap_cons] at h
    by_cases hj : j < s
    · rw [List.getElem?_append_left (by omega)] at h
      exact ⟨0, j, z, by omega, rfl, h⟩
    · rw [List.getElem?_append_right (by omega), hz] at h
      obtain ⟨i, r, y, h1, h2, h3⟩ := flatMap_inv f s t (fun y hy => hl y (by simp [hy])) _ _ h
      exact ⟨i + 1, r, y, by rw [Nat.add_mul]; omega, h2, h3⟩
section
variable {α : Type} {E : Rep α} {e : TypeId} {w w1 : World} {B : Nat} {xs : List α} {n c : Nat} {v : Value}
theorem flat_cells {enc : α → List Value} {b off : Nat} (hE : ∀ x cs, E.at_ w B x cs → cs = enc x) (h : SlAt E w B xs (some ⟨b, off, none⟩) n c) :
    ∀ j u, (xs.flatMap enc)[j]? = some u → w.cell? ⟨b, off + j, none⟩ = some u := by
  have hlen : ∀ y ∈ xs, (enc y).length = E.size := fun y hy => by
    obtain ⟨i, hi, rfl⟩ := List.mem_iff_getElem.1 hy
    obtain ⟨x, cs, hx, _, ha, _⟩ := h.get' (k := i) (by rw [← h.1]; exact hi)
    rw [List.getElem?_eq_getElem hi] at hx
    injection hx with hx
    subst hx
    rw [← hE _ _ ha]
    exact E.len ha
  intro j u hu
  obtain ⟨i, r, y, rfl, h2, h3⟩ := flatMap_inv enc E.size xs hlen j u hu
  obtain ⟨x, cs, hx, _, ha, hc⟩ := h.get' (k := i) (by rw [← h.1]; exact (List.getElem?_eq_some_iff.1 h2).1)
  rw [h2] at hx
  injection hx with hx
  subst hx
  rw [hE _ _ ha] at hc
  have := hc r u h3
  rwa [Nat.add_assoc] at this
theorem flat_cells' {enc : α → List Value} {a : Addr} (hE : ∀ x cs, E.at_ w B x cs → cs = enc x) (h : SlAt E w B xs (some a) n c) :
    ∀ j u, (xs.flatMap enc)[j]? = some u → w.cell? (a.add j) = some u := by
  intro j u hu
  have hn : 0 < n := by
    apply Classical.byContradiction
    intro hn
    have h0 : xs = [] := List.length_eq_zero_iff.1 (by rw [h.1]; omega)
    rw [h0] at hu
    simp at hu
  obtain ⟨x, b, off, cs, _, hA, _⟩ := h.get hn
  injection hA with hA
  subst hA
  rw [Addr.add_lit]
  exact flat_cells hE h j u hu
theorem SlAt.drop {b off k : Nat} (h : SlAt E w B xs (some ⟨b, off, none⟩) n c) (hk : k ≤ n) : SlAt E w B (xs.drop k) (some ⟨b, off + k * E.size, none⟩) (n - k) (c - k) := by
  obtain ⟨h1, h2, h3, h4, h5⟩ := h
  refine ⟨by rw [List.length_drop]; omega, by omega, by omega, (fun hh => by cases hh), fun i x hx => ?_⟩
  rw [List.getElem?_drop] at hx
  obtain ⟨b', off', cs, hA, hb, ha, hc⟩ := h5 (k + i) x hx
  injection hA with hA
  injection hA with e1 e2
  subst e1; subst e2
  refine ⟨b, _, cs, rfl, hb, ha, fun j u hu => ?_⟩
  have := hc j u hu
  rw [Nat.add_mul, ← Nat.add_assoc] at this
  exact this
theorem SlOwn.of_row {enc : α → List Value} (ho : w.ownsRow 0 e E.size v n (xs.flatMap enc)) (hE : ∀ x, x ∈ xs → E.own w x (enc x) []) (hl : xs.length = n) : SlOwn E e w xs v v.ownBlock.toList := by
  have h1 : ∀ l : List α, (l.map fun x => (enc x, ([] : List Nat))).flatMap (·.1) = l.flatMap enc := fun l => by simp [List.flatMap_map]
  have h2 : ∀ l : List α, (l.map fun x => (enc x, ([] : List Nat))).flatMap (·.2) = [] := fun l => by simp [List.flatMap_map]
  subst hl
  refine ⟨xs.map fun x => (enc x, []), ⟨by simp, fun i x y hx hy => ?_⟩, by rw [h1]; exact ho, by rw [h2]; simp⟩
  rw [List.getElem?_map, hx] at hy
  simp at hy
  subst hy
  exact hE x (List.mem_of_getElem? hx)
theorem flat_len {enc : α → List Value} {A : Option Addr} (hE : ∀ x cs, E.at_ w B x cs → cs = enc x) (h : SlAt E w B xs A n c) : (xs.flatMap enc).length = n * E.size := by
  have hlen : ∀ y ∈ xs, (enc y).length = E.size := fun y hy => by
    obtain ⟨i, hi, rfl⟩ := List.mem_iff_getElem.1 hy
    obtain ⟨x, b, off, cs, hx, _, _, ha, _⟩ := h.get (k := i) (by rw [← h.1]; exact hi)
    rw [List.getElem?_eq_getElem hi] at hx
    injection hx with hx
    subst hx
    rw [← hE _ _ ha]
    exact E.len ha
  rw [← h.1]
  clear h
  induction xs with
  | nil => simp
  | cons z t ih => rw [List.flatMap_cons, List.length_append, ih (fun y hy => hlen y (by simp [hy])), hlen z (by simp), List.length_cons, Nat.add_mul]; omega
theorem clone_post {enc : α → List Value} {o : Obj} {xs' : List Value} {m : Nat} (hm : m = n) (hx : xs' = xs.flatMap enc) (hown : w1.ownsRow w.heap.size e E.size v m xs') (hgrow : (w.alloc o).grownBy w1 (some w.heap.size)) (hE : ∀ x, x ∈ xs → E.own w1 x (enc x) []) (hl : xs.length = n) :
    Acc E e w xs v w1 := by
  subst hm; subst hx
  have hb : ∀ k, v.ownBlock = some k → w.heap.size ≤ k := fun k hk => (hown.lt k hk).1
  have h0 : w1.ownsRow 0 e E.size v m (xs.flatMap enc) := ⟨hown.1, hown.2.imp id fun ⟨g, cap, cur, h1, _, h3⟩ => ⟨g, cap, cur, h1, Nat.zero_le _, h3⟩⟩
  refine ⟨_, SlOwn.of_row h0 hE hl, by cases v.ownBlock <;> simp, fun b hb' => hb b (by simpa using hb'), ?_⟩
  exact (below_new (Below.refl _ _) o).grown hgrow (by rw [Mm.sz1]; omega) (fun k hk => by injection hk with hk; omega)
theorem Acc.newsl (h : Acc E e w xs v w1) : NewSl E e w xs (.returned v) w1 := by
  obtain ⟨fp, h1, h2, h3, h4⟩ := h
  obtain ⟨A, n, c, rfl, _⟩ := h1.form
  exact ⟨A, n, c, fp, rfl, h1, h2, h3, h4⟩
end
section
variable {α : Type} {E : Rep α} {t : TypeId} {w wr : World} {xs : List α}
theorem Acc.put {g n c i j : Nat} {x x' : α} {u : Value} (h : Acc E t w xs (.slice (some ⟨g, 0, none⟩) n c) wr) (hi : xs[i]? = some x) (hj : j < E.size) (hx : ∀ cs fx, E.own wr x cs fx → E.own wr x' (cs.set j u) fx) :
    Acc E t w (xs.set i x') (.slice (some ⟨g, 0, none⟩) n c) (wr.setCell ⟨g, i * E.size + j, none⟩ u) := by
  obtain ⟨fp, h1, h2, h3, h4⟩ := h
  exact ⟨fp, h1.store h2 hi hj hx, h2, h3, h4.setCell (h3 g h1.mem_block) _⟩
end
end Mm
end Go.Proofs.YtbhmdnjammnlnaaGreatDoor

namespace Go.Proofs.YtbhmdnjammnlnaaGreatDoor
open Go.RowKit
namespace Mm
structure Thing where
  fp : List Nat
  holds : World → Prop
  keep : ∀ {w w' : World}, holds w → (∀ b, b ∈ fp → w'.heap[b]? = w.heap[b]?) → holds w'
  lt : ∀ {w : World}, holds w → ∀ b, b ∈ fp → b < w.heap.size
def tblk (g : Nat) (t : TypeId) (cs : List Value) : Thing := ⟨[g], fun w => Blk w g t cs, fun h k => h.keep (k g (by simp)), fun h b hb => by rw [List.mem_singleton.1 hb]; exact h.lt⟩
def tsl {α : Type} (E : Rep α) (e : TypeId) (xs : List α) (v : Value) (fp : List Nat) : Thing := ⟨fp, fun w => SlOwn E e w xs v fp, fun h k => h.okeep k, fun h => h.olt⟩
def tow {α : Type} (R : Rep α) (x : α) (cs : List Value) (fp : List Nat) : Thing := ⟨fp, fun w => R.own w x cs fp, fun h k => R.okeep h k, fun h => R.olt h⟩
def tnil : Thing := ⟨[], fun _ => True, fun _ _ => trivial, fun _ b hb => by cases hb⟩
structure Sep (w0 wr : World) (ts : List Thing) : Prop where
  bel : Below w0.heap.size w0 wr
  nd : (ts.flatMap (·.fp)).Nodup
  new : ∀ b, b ∈ ts.flatMap (·.fp) → w0.heap.size ≤ b
  hold : ∀ t, t ∈ ts → t.holds wr
theorem flat_split {β γ : Type} (f : β → List γ) {l : List β} {i : Nat} {x : β} (h : l[i]? = some x) (y : β) :
    l.flatMap f = (l.take i).flatMap f ++ (f x ++ (l.drop (i + 1)).flatMap f) ∧ (l.set i y).flatMap f = (l.take i).flatMap f ++ (f y ++ (l.drop (i + 1)).flatMap f) := by
  obtain ⟨hi, hx⟩ := List.getElem?_eq_some_iff.1 h
  subst hx
  constructor
  · conv => lhs; rw [show l = l.take i ++ l[i] :: l.drop (i + 1) by rw [← List.drop_eq_getElem_cons hi, List.take_append_drop]]
    rw [List.flatMap_append, List.flatMap_cons]
  · rw [List.set_eq_take_append_cons_drop, if_pos hi, List.flatMap_append, List.flatMap_cons]
section
variable {w0 wr W : World} {ts : List Thing} {t t' s : Thing} {i j : Nat}
theorem Sep.start (w : World) : Sep w w [] := ⟨Below.refl _ _, by simp, by simp, by simp⟩
theorem Sep.at_ (h : Sep w0 wr ts) (i : Nat) (hi : ts[i]? = some t) : t.holds wr := h.hold t (List.mem_of_getElem? hi)
theorem Sep.mem (hi : ts[i]? = some t) {b : Nat} (hb : b ∈ t.fp) : b ∈ ts.flatMap (·.fp) := List.mem_flatMap.2 ⟨t, List.mem_of_getElem? hi, hb⟩
theorem Sep.lt (h : Sep w0 wr ts) : ∀ b, b ∈ ts.flatMap (·.fp) → b < wr.heap.size := fun b hb => by
  obtain ⟨t, ht, hb⟩ := List.mem_flatMap.1 hb
  exact t.lt (h.hold t ht) b hb
theorem Sep.ndat (h : Sep w0 wr ts) (hi : ts[i]? = some t) : t.fp.Nodup := by
  have := h.nd
  rw [(flat_split (·.fp) hi t).1] at this
  exact ((List.nodup_append.1 this).2.1 |> List.nodup_append.1).1
theorem Sep.apart (h : Sep w0 wr ts) (hi : ts[i]? = some t) (hj : ts[j]? = some s) (hij : i ≠ j) : ∀ b, b ∈ t.fp → b ∉ s.fp := by
  have hnd := h.nd
  rw [(flat_split (·.fp) hi t).1, List.nodup_append, List.nodup_append] at hnd
  intro b hb hs
  rcases Nat.lt_or_gt_of_ne hij with h1 | h1
  · refine hnd.2.1.2.2 b hb b (List.mem_flatMap.2 ⟨s, List.mem_of_getElem? (i := j - (i + 1)) ?_, hs⟩) rfl
    rw [List.getElem?_drop, show i + 1 + (j - (i + 1)) = j by omega]; exact hj
  · refine hnd.2.2 b (List.mem_flatMap.2 ⟨s, List.mem_of_getElem? (i := j) ?_, hs⟩) b (List.mem_append_left _ hb) rfl
    rw [List.getElem?_take, if_pos h1]; exact hj
theorem Sep.step (h : Sep w0 wr ts) (hb : Below wr.heap.size wr W) : Sep w0 W ts :=
  ⟨below_step h.bel hb, h.nd, h.new, fun t ht => t.keep (h.hold t ht) fun b hb' => hb.block b (h.lt b (List.mem_flatMap.2 ⟨t, ht, hb'⟩))⟩
theorem Sep.add (h : Sep w0 wr ts) (hb : Below wr.heap.size wr W) (ht : t.holds W) (hnd : t.fp.Nodup) (hnew : ∀ b, b ∈ t.fp → wr.heap.size ≤ b) : Sep w0 W (t :: ts) := by
  have h1 := h.step hb
  refine ⟨h1.bel, ?_, fun b hb' => ?_, fun u hu => ?_⟩
  · rw [List.flatMap_cons, List.nodup_append]
    exact ⟨hnd, h.nd, fun a ha b hb' e => by subst e; have := hnew a ha; have := h.lt a hb'; omega⟩
  · rw [List.flatMap_cons] at hb'
    rcases List.mem_append.1 hb' with hb' | hb'
    · have := hnew b hb'; have := h.bel.size; omega
    · exact h.new b hb'
  · rcases List.mem_cons.1 hu with rfl | hu
    · exact ht
    · exact h1.hold u hu
theorem Sep.alloc (h : Sep w0 wr ts) (t : TypeId) (cs : List Value) : Sep w0 (wr.alloc (.cells cs.toArray t)) (tblk wr.heap.size t cs :: ts) :=
  h.add (below_new (Below.refl _ _) _) (Blk.new wr t cs) (by simp [tblk]) (by simp [tblk])
theorem Sep.alloc' {g : Nat} (h : Sep w0 wr ts) (hg : wr.heap.size = g) (t : TypeId) (cs : List Value) : Sep w0 (wr.alloc (.cells cs.toArray t)) (tblk g t cs :: ts) := by subst hg; exact h.alloc t cs
theorem Sep.upd (h : Sep w0 wr ts) (hi : ts[i]? = some t) (hc : Chg t.fp wr W) (ht : t'.holds W) (hnd : t'.fp.Nodup) (hsub : ∀ b, b ∈ t'.fp → b ∈ t.fp ∨ wr.heap.size ≤ b) : Sep w0 W (ts.set i t') := by
  have hs := flat_split (·.fp) hi t'
  have hN := h.nd
  rw [hs.1, List.nodup_append, List.nodup_append] at hN
  have hL := h.lt
  rw [hs.1] at hL
  refine ⟨Below.chg h.bel hc h.bel.size (fun x hx => h.new x (Sep.mem hi hx)), ?_, ?_, ?_⟩
  · rw [hs.2, List.nodup_append, List.nodup_append]
    refine ⟨hN.1, ⟨hnd, hN.2.1.2.1, fun a ha b hb e => ?_⟩, fun a ha b hb e => ?_⟩
    · subst e
      rcases hsub a ha with h1 | h1
      · exact hN.2.1.2.2 a h1 a hb rfl
      · have := hL a (List.mem_append_right _ (List.mem_append_right _ hb)); omega
    · subst e
      rcases List.mem_append.1 hb with hb | hb
      · rcases hsub a hb with h1 | h1
        · exact hN.2.2 a ha a (List.mem_append_left _ h1) rfl
        · have := hL a (List.mem_append_left _ ha); omega
      · exact hN.2.2 a ha a (List.mem_append_right _ hb) rfl
  · intro b hb
    obtain ⟨u, hu, hb2⟩ := List.mem_flatMap.1 hb
    rcases List.mem_or_eq_of_mem_set hu with h1 | h1
    · exact h.new b (List.mem_flatMap.2 ⟨u, h1, hb2⟩)
    · rw [h1] at hb2
      rcases hsub b hb2 with h1 | h1
      · exact h.new b (Sep.mem hi h1)
      · have := h.bel.size; omega
  · intro u hu
    obtain ⟨k, hk⟩ := List.mem_iff_getElem?.1 hu
    by_cases hik : i = k
    · subst hik
      rw [List.getElem?_set_self (List.getElem?_eq_some_iff.1 hi).1] at hk
      injection hk with hk
      subst hk
      exact ht
    · rw [List.getElem?_set_ne hik] at hk
      have hu' := h.hold u (List.mem_of_getElem? hk)
      exact u.keep hu' fun b hb => hc.block b (u.lt hu' b hb) (fun hm => h.apart hi hk hik b hm hb)
theorem Sep.upd2 (h : Sep w0 wr ts) (hij : i ≠ j) (hi : ts[i]? = some t) (hj : ts[j]? = some s) (hc : Chg (t.fp ++ s.fp) wr W) (ht : t'.holds W) (hnd : t'.fp.Nodup) (hsub : ∀ b, b ∈ t'.fp → b ∈ t.fp ∨ b ∈ s.fp ∨ wr.heap.size ≤ b) :
    Sep w0 W ((ts.set j tnil).set i t') := by
  have hji : (ts.set j tnil)[i]? = some t := by rw [List.getElem?_set_ne (Ne.symm hij)]; exact hi
  have h1 : Sep w0 wr ((ts.set j tnil).set i ⟨t.fp ++ s.fp, fun w => t.holds w ∧ s.holds w, fun hh k => ⟨t.keep hh.1 fun b hb => k b (List.mem_append_left _ hb), s.keep hh.2 fun b hb => k b (List.mem_append_right _ hb)⟩,
      fun hh b hb => (List.mem_append.1 hb).elim (t.lt hh.1 b) (s.lt hh.2 b)⟩) := by
    have h2 : Sep w0 wr (ts.set j tnil) := h.upd hj (Chg.refl _ _) trivial (by simp [tnil]) (fun b hb => by cases hb)
    have ha := h.apart hi hj hij
    have hns := h.ndat hj
    have hs := flat_split (·.fp) hji ⟨t.fp ++ s.fp, fun w => t.holds w ∧ s.holds w, fun hh k => ⟨t.keep hh.1 fun b hb => k b (List.mem_append_left _ hb), s.keep hh.2 fun b hb => k b (List.mem_append_right _ hb)⟩,
      fun hh b hb => (List.mem_append.1 hb).elim (t.lt hh.1 b) (s.lt hh.2 b)⟩
    have hN := h2.nd
    rw [hs.1, List.nodup_append, List.nodup_append] at hN
    have hap : ∀ b, b ∈ s.fp → b ∉ (ts.set j tnil).flatMap (·.fp) := fun b hb hm => by
      obtain ⟨u, hu, hb'⟩ := List.mem_flatMap.1 hm
      obtain ⟨k, hk⟩ := List.mem_iff_getElem?.1 hu
      by_cases hjk : j = k
      · subst hjk
        rw [List.getElem?_set_self (List.getElem?_eq_some_iff.1 hj).1] at hk
        injection hk with hk
        subst hk
        cases hb'
      · rw [List.getElem?_set_ne hjk] at hk
        exact h.apart hj hk hjk b hb hb'
    rw [hs.1] at hap
    refine ⟨h2.bel, ?_, ?_, ?_⟩
    · rw [hs.2, List.nodup_append, List.nodup_append]
      refine ⟨hN.1, ⟨?_, hN.2.1.2.1, fun a ha' b hb e => ?_⟩, fun a ha' b hb e => ?_⟩
      · show (t.fp ++ s.fp).Nodup
        rw [List.nodup_append]
        exact ⟨hN.2.1.1, hns, fun a h3 b h4 e => by subst e; exact ha a h3 h4⟩
      · subst e
        rcases List.mem_append.1 ha' with h3 | h3
        · exact hN.2.1.2.2 a h3 a hb rfl
        · exact hap a h3 (List.mem_append_right _ (List.mem_append_right _ hb))
      · subst e
        rcases List.mem_append.1 hb with hb | hb
        · rcases List.mem_append.1 hb with h3 | h3
          · exact hN.2.2 a ha' a (List.mem_append_left _ h3) rfl
          · exact hap a h3 (List.mem_append_left _ ha')
        · exact hN.2.2 a ha' a (List.mem_append_right _ hb) rfl
    · intro b hb
      rw [hs.2] at hb
      rcases List.mem_append.1 hb with hb | hb
      · exact h2.new b (by rw [hs.1]; exact List.mem_append_left _ hb)
      · rcases List.mem_append.1 hb with hb | hb
        · rcases List.mem_append.1 hb with h3 | h3
          · exact h.new b (Sep.mem hi h3)
          · exact h.new b (Sep.mem hj h3)
        · exact h2.new b (by rw [hs.1]; exact List.mem_append_right _ (List.mem_append_right _ hb))
    · intro u hu
      rcases List.mem_or_eq_of_mem_set hu with h3 | rfl
      · exact h2.hold u h3
      · exact ⟨h.at_ i hi, h.at_ j hj⟩
  have hlt : i < (ts.set j tnil).length := (List.getElem?_eq_some_iff.1 hji).1
  have h3 := h1.upd (i := i) (List.getElem?_set_self hlt) hc ht hnd (fun b hb => by
    rcases hsub b hb with h | h | h
    · exact .inl (List.mem_append_left _ h)
    · exact .inl (List.mem_append_right _ h)
    · exact .inr h)
  rwa [List.set_set] at h3
end
section
variable {w0 wr W2 : World} {ts : List Thing} {s : Thing} {i j : Nat}
theorem Sep.setBlk {g k : Nat} {t : TypeId} {cs : List Value} (h : Sep w0 wr ts) (i : Nat) (hi : ts[i]? = some (tblk g t cs)) (u : Value) : Sep w0 (wr.setCell ⟨g, k, none⟩ u) (ts.set i (tblk g t (cs.set k u))) :=
  h.upd hi ((Chg.refl _ _).setCell (by simp [tblk]) u) ((show Blk wr g t cs from h.at_ i hi).set_ k u) (by simp [tblk]) (fun b hb => .inl hb)
variable {α : Type} {E : Rep α} {e : TypeId} {xs : List α} {v : Value} {fp : List Nat} {x : α} {cx : List Value}
theorem Sep.putSl {g n c k m : Nat} {x x' : α} {u : Value} (h : Sep w0 wr ts) (i : Nat) (hi : ts[i]? = some (tsl E e xs (.slice (some ⟨g, 0, none⟩) n c) fp)) (hk : xs[k]? = some x) (hm : m < E.size) (hx : ∀ cs fx, E.own wr x cs fx → E.own wr x' (cs.set m u) fx) :
    Sep w0 (wr.setCell ⟨g, k * E.size + m, none⟩ u) (ts.set i (tsl E e (xs.set k x') (.slice (some ⟨g, 0, none⟩) n c) fp)) := by
  have h1 : SlOwn E e wr xs (.slice (some ⟨g, 0, none⟩) n c) fp := h.at_ i hi
  have hnd : fp.Nodup := h.ndat hi
  exact h.upd hi ((Chg.refl _ _).setCell h1.mem_block u) (h1.store hnd hk hm hx) hnd (fun b hb => .inl hb)
theorem row_in {w : World} (h : SlOwn E e w xs v fp) {k : Nat} (hk : v.ownBlock = some k) : k ∈ fp := by
  obtain ⟨es, _, _, rfl⟩ := h
  exact List.mem_append_left _ (by rw [hk]; simp)
theorem Sep.tail {t : Thing} (h : Sep w0 wr (t :: ts)) : Sep w0 wr ts := ⟨h.bel, by have := h.nd; rw [List.flatMap_cons, List.nodup_append] at this; exact this.2.1, fun b hb => h.new b (by rw [List.flatMap_cons]; exact List.mem_append_right _ hb), fun t ht => h.hold t (List.mem_cons_of_mem _ ht)⟩
theorem sl_addr {w : World} {A : Option Addr} {n c : Nat} (h : SlOwn E e w xs (.slice A n c) fp) (h0 : 0 < xs.length) : ∃ g, A = some ⟨g, 0, none⟩ ∧ g ∈ fp ∧ n = xs.length := by
  obtain ⟨A', n', c', hv, hn, _⟩ := h.form
  injection hv with h1 h2 h3
  have hm := fun g (hg : (Value.slice A n c).ownBlock = some g) => row_in h hg
  obtain ⟨es, he, ho, rfl⟩ := h
  obtain ⟨g, cap, hf, _⟩ := ho.form h0
  injection hf with hA
  subst hA
  exact ⟨g, rfl, hm g rfl, by omega⟩
theorem Sep.push (h : Sep w0 wr ts) (i j : Nat) (hij : i ≠ j) (hi : ts[i]? = some (tsl E e xs v fp)) (hj : ts[j]? = some s) (hb : Below wr.heap.size wr W2) (hx : ∀ W, s.holds W → E.own W x cx s.fp) :
    ∃ l, W2.ownsRow 0 e E.size v xs.length l ∧ ∀ gg cap w1, w1.ownsRow 0 e E.size (.slice (some ⟨gg, 0, none⟩) (xs.length + 1) cap) (xs.length + 1) (l ++ cx) → W2.grownBy w1 v.ownBlock → (v.ownBlock = some gg ∨ gg = W2.heap.size) →
      ∃ fp', Sep w0 w1 ((ts.set j tnil).set i (tsl E e (xs ++ [x]) (.slice (some ⟨gg, 0, none⟩) (xs.length + 1) cap) fp')) := by
  have h2 := h.step hb
  have ho : SlOwn E e W2 xs v fp := h2.at_ i hi
  have hs := hx _ (h2.at_ j hj)
  obtain ⟨l, k1, k2⟩ := ho.push hs (h2.ndat hi) (h2.ndat hj) (fun b hb hm => h2.apart hi hj hij b hm hb)
  refine ⟨l, k1, fun gg cap w1 g1 g2 g3 => ?_⟩
  obtain ⟨fp', m1, m2, m3⟩ := k2 _ w1 g1 g2 (g3.elim (fun h => .inl h.symm) (fun h => .inr (by rw [h]; rfl)))
  refine ⟨fp', h2.upd2 hij hi hj ?_ m1 m2 (fun b hb => ?_)⟩
  · exact ⟨g2.os, g2.tape, g2.output, g2.size, fun k hk hn => g2.block k hk (fun hh => hn (List.mem_append_left _ (row_in ho hh.symm)))⟩
  · rcases m3 b hb with h | h | h
    · exact .inl h
    · exact .inr (.inl h)
    · exact .inr (.inr (by omega))
theorem Sep.push0 (h : Sep w0 wr ts) (i : Nat) (hi : ts[i]? = some (tsl E e xs v fp)) (hb : Below wr.heap.size wr W2) (hx : E.own W2 x cx []) :
    ∃ l, W2.ownsRow 0 e E.size v xs.length l ∧ ∀ gg cap w1, w1.ownsRow 0 e E.size (.slice (some ⟨gg, 0, none⟩) (xs.length + 1) cap) (xs.length + 1) (l ++ cx) → W2.grownBy w1 v.ownBlock → (v.ownBlock = some gg ∨ gg = W2.heap.size) →
      ∃ fp', Sep w0 w1 (ts.set i (tsl E e (xs ++ [x]) (.slice (some ⟨gg, 0, none⟩) (xs.length + 1) cap) fp')) := by
  have h2 := h.step hb
  have ho : SlOwn E e W2 xs v fp := h2.at_ i hi
  obtain ⟨l, k1, k2⟩ := ho.push hx (h2.ndat hi) List.nodup_nil (fun b hb => by cases hb)
  refine ⟨l, k1, fun gg cap w1 g1 g2 g3 => ?_⟩
  obtain ⟨fp', m1, m2, m3⟩ := k2 _ w1 g1 g2 (g3.elim (fun h => .inl h.symm) (fun h => .inr (by rw [h]; rfl)))
  refine ⟨fp', h2.upd hi ?_ m1 m2 (fun b hb => ?_)⟩
  · exact ⟨g2.os, g2.tape, g2.output, g2.size, fun k hk hn => g2.block k hk (fun hh => hn (row_in ho hh.symm))⟩
  · rcases m3 b hb with h | h | h
    · exact .inl h
    · cases h
    · exact .inr (by omega)
theorem Sep.putIn {g n c k : Nat} (h : Sep w0 wr ts) (i : Nat) (hi : ts[i]? = some (tsl E e xs (.slice (some ⟨g, 0, none⟩) n c) fp)) (hk : xs[k]? = some x) :
    ∃ cs fx, E.own wr x cs fx ∧ fx.Nodup ∧ (∀ b, b ∈ fx → b ∈ fp ∧ b ≠ g) ∧ (∀ j u, cs[j]? = some u → wr.cell? ⟨g, k * E.size + j, none⟩ = some u) ∧
      ∀ W x' fx', Chg fx wr W → E.own W x' cs fx' → fx'.Nodup → (∀ b, b ∈ fx' → b ∈ fx) → ∃ fp', Sep w0 W (ts.set i (tsl E e (xs.set k x') (.slice (some ⟨g, 0, none⟩) n c) fp')) := by
  have h1 : SlOwn E e wr xs (.slice (some ⟨g, 0, none⟩) n c) fp := h.at_ i hi
  obtain ⟨cs, fx, k1, k2, k3, k4, k5⟩ := h1.inner (h.ndat hi) hk
  refine ⟨cs, fx, k1, k2, k3, k4, fun W x' fx' m1 m2 m3 m4 => ?_⟩
  obtain ⟨fp', p1, p2, p3⟩ := k5 W x' fx' m1 m2 m3 m4
  exact ⟨fp', h.upd hi (m1.more fun b hb => (k3 b hb).1) p1 p2 (fun b hb => .inl (p3 b hb))⟩
theorem Sep.cell {g k : Nat} {t : TypeId} {cs : List Value} {u : Value} (h : Sep w0 wr ts) (i : Nat) (hi : ts[i]? = some (tblk g t cs)) (hu : cs[k]? = some u) : wr.cell? ⟨g, k, none⟩ = some u := (show Blk wr g t cs from h.at_ i hi).cell hu
theorem Sep.frz {g k : Nat} {t : TypeId} {cs : List Value} (h : Sep w0 wr ts) (i : Nat) (hi : ts[i]? = some (tblk g t cs)) : wr.frozen? ⟨g, k, none⟩ = false := (show Blk wr g t cs from h.at_ i hi).frozen k
theorem Sep.blk {g : Nat} {t : TypeId} {cs : List Value} (h : Sep w0 wr ts) (i : Nat) (hi : ts[i]? = some (tblk g t cs)) : g < wr.heap.size ∧ w0.heap.size ≤ g := ⟨(show Blk wr g t cs from h.at_ i hi).lt, h.new g (Sep.mem hi (by simp [tblk]))⟩
theorem Sep.sl (h : Sep w0 wr ts) (i : Nat) (hi : ts[i]? = some (tsl E e xs v fp)) : SlOwn E e wr xs v fp := h.at_ i hi
theorem Sep.slnew (h : Sep w0 wr ts) (i : Nat) (hi : ts[i]? = some (tsl E e xs v fp)) : ∀ b, b ∈ fp → w0.heap.size ≤ b ∧ b < wr.heap.size := fun b hb => ⟨h.new b (Sep.mem hi hb), (show SlOwn E e wr xs v fp from h.at_ i hi).olt b hb⟩
end
end Mm
end Go.Proofs.YtbhmdnjammnlnaaGreatDoor

namespace Go.Proofs.YtbhmdnjammnlnaaGreatDoor
open Go.RowKit
namespace Mm
structure SepF (F : List Nat) (w0 wr : World) (ts : List Thing) : Prop where
  chg : Chg F w0 wr
  nd : (ts.flatMap (·.fp)).Nodup
  new : ∀ b, b ∈ ts.flatMap (·.fp) → b ∈ F ∨ w0.heap.size ≤ b
  hold : ∀ t, t ∈ ts → t.holds wr
def tptr {α : Type} (R : Rep α) (t : TypeId) (g : Nat) (x : α) (fp : List Nat) : Thing :=
  ⟨g :: fp, fun w => ∃ cs, Blk w g t cs ∧ R.own w x cs fp, fun ⟨cs, h1, h2⟩ k => ⟨cs, h1.keep (k g (by simp)), R.okeep h2 fun b hb => k b (List.mem_cons_of_mem _ hb)⟩,
    fun ⟨cs, h1, h2⟩ b hb => by
      rcases List.mem_cons.1 hb with rfl | hb
      · exact h1.lt
      · exact R.olt h2 b hb⟩
def Left (F : List Nat) (w w' : World) (t : Thing) : Prop := Chg F w w' ∧ t.fp.Nodup ∧ (∀ b, b ∈ t.fp → b ∈ F ∨ w.heap.size ≤ b) ∧ t.holds w'
section
variable {F : List Nat} {w0 wr W : World} {ts : List Thing} {t t' s : Thing} {i j : Nat}
theorem SepF.one (t : Thing) (w : World) (h : t.holds w) (hn : t.fp.Nodup) : SepF t.fp w w [t] := ⟨Chg.refl _ _, by simpa using hn, fun b hb => .inl (by simpa using hb), fun u hu => by rw [List.mem_singleton.1 hu]; exact h⟩
theorem SepF.conv {us : List Thing} (h : SepF F w0 wr ts) (hp : (us.flatMap (·.fp)).Perm (ts.flatMap (·.fp))) (hh : ∀ u, u ∈ us → u.holds wr) : SepF F w0 wr us :=
  ⟨h.chg, hp.nodup_iff.2 h.nd, fun b hb => h.new b (hp.mem_iff.1 hb), hh⟩
theorem SepF.chgon (h : SepF F w0 wr ts) (hi : ts[i]? = some t) (hc : Chg t.fp wr W) : Chg F w0 W := by
  refine ⟨hc.os.trans h.chg.os, hc.tape.trans h.chg.tape, hc.output.trans h.chg.output, Nat.le_trans h.chg.size hc.size, fun k hk hn => ?_⟩
  have hkw : k < wr.heap.size := Nat.lt_of_lt_of_le hk h.chg.size
  refine (hc.block k hkw fun hm => ?_).trans (h.chg.block k hk hn)
  rcases h.new k (List.mem_flatMap.2 ⟨t, List.mem_of_getElem? hi, hm⟩) with h1 | h1
  · exact hn h1
  · omega
theorem SepF.left (h : SepF F w0 wr [t]) : Left F w0 wr t := ⟨h.chg, by simpa using h.nd, fun b hb => h.new b (by simpa using hb), h.hold t (by simp)⟩
theorem SepF.at_ (h : SepF F w0 wr ts) (i : Nat) (hi : ts[i]? = some t) : t.holds wr := h.hold t (List.mem_of_getElem? hi)
theorem SepF.mem (hi : ts[i]? = some t) {b : Nat} (hb : b ∈ t.fp) : b ∈ ts.flatMap (·.fp) := List.mem_flatMap.2 ⟨t, List.mem_of_getElem? hi, hb⟩
theorem SepF.lt (h : SepF F w0 wr ts) : ∀ b, b ∈ ts.flatMap (·.fp) → b < wr.heap.size := fun b hb => by
  obtain ⟨t, ht, hb⟩ := List.mem_flatMap.1 hb
  exact t.lt (h.hold t ht) b hb
theorem SepF.ndat (h : SepF F w0 wr ts) (hi : ts[i]? = some t) : t.fp.Nodup := by
  have := h.nd
  rw [(flat_split (·.fp) hi t).1] at this
  exact ((List.nodup_append.1 this).2.1 |> List.nodup_append.1).1
theorem SepF.apart (h : SepF F w0 wr ts) (hi : ts[i]? = some t) (hj : ts[j]? = some s) (hij : i ≠ j) : ∀ b, b ∈ t.fp → b ∉ s.fp := by
  have hnd := h.nd
  rw [(flat_split (·.fp) hi t).1, List.nodup_append, List.nodup_append] at hnd
  intro b hb hs
  rcases Nat.lt_or_gt_of_ne hij with h1 | h1
  · refine hnd.2.1.2.2 b hb b (List.mem_flatMap.2 ⟨s, List.mem_of_getElem? (i := j - (i + 1)) ?_, hs⟩) rfl
    rw [List.getElem?_drop, show i + 1 + (j - (i + 1)) = j by omega]; exact hj
  · refine hnd.2.2 b (List.mem_flatMap.2 ⟨s, List.mem_of_getElem? (i := j) ?_, hs⟩) b (List.mem_append_left _ hb) rfl
    rw [List.getElem?_take, if_pos h1]; exact hj
theorem SepF.step (h : SepF F w0 wr ts) (hb : Below wr.heap.size wr W) : SepF F w0 W ts :=
  ⟨h.chg.trans (Chg.of_below hb), h.nd, h.new, fun t ht => t.keep (h.hold t ht) fun b hb' => hb.block b (h.lt b (List.mem_flatMap.2 ⟨t, ht, hb'⟩))⟩
theorem SepF.add (h : SepF F w0 wr ts) (hb : Below wr.heap.size wr W) (ht : t.holds W) (hnd : t.fp.Nodup) (hnew : ∀ b, b ∈ t.fp → wr.heap.size ≤ b) : SepF F w0 W (t :: ts) := by
  have h1 := h.step hb
  refine ⟨h1.chg, ?_, fun b hb' => ?_, fun u hu => ?_⟩
  · rw [List.flatMap_cons, List.nodup_append]
    exact ⟨hnd, h.nd, fun a ha b hb' e => by subst e; have := hnew a ha; have := h.lt a hb'; omega⟩
  · rw [List.flatMap_cons] at hb'
    rcases List.mem_append.1 hb' with hb' | hb'
    · have := hnew b hb'; have := h.chg.size; exact .inr (by omega)
    · exact h.new b hb'
  · rcases List.mem_cons.1 hu with rfl | hu
    · exact ht
    · exact h1.hold u hu
theorem SepF.alloc (h : SepF F w0 wr ts) (t : TypeId) (cs : List Value) : SepF F w0 (wr.alloc (.cells cs.toArray t)) (tblk wr.heap.size t cs :: ts) :=
  h.add (below_new (Below.refl _ _) _) (Blk.new wr t cs) (by simp [tblk]) (by simp [tblk])
theorem SepF.alloc' {g : Nat} (h : SepF F w0 wr ts) (hg : wr.heap.size = g) (t : TypeId) (cs : List Value) : SepF F w0 (wr.alloc (.cells cs.toArray t)) (tblk g t cs :: ts) := by subst hg; exact h.alloc t cs
theorem SepF.upd (h : SepF F w0 wr ts) (hi : ts[i]? = some t) (hc : Chg t.fp wr W) (ht : t'.holds W) (hnd : t'.fp.Nodup) (hsub : ∀ b, b ∈ t'.fp → b ∈ t.fp ∨ wr.heap.size ≤ b) : SepF F w0 W (ts.set i t') := by
  have hs := flat_split (·.fp) hi t'
  have hN := h.nd
  rw [hs.1, List.nodup_append, List.nodup_append] at hN
  have hL := h.lt
  rw [hs.1] at hL
  refine ⟨h.chgon hi hc, ?_, ?_, ?_⟩
  · rw [hs.2, List.nodup_append, List.nodup_append]
    refine ⟨hN.1, ⟨hnd, hN.2.1.2.1, fun a ha b hb e => ?_⟩, fun a ha b hb e => ?_⟩
    · subst e
      rcases hsub a ha with h1 | h1
      · exact hN.2.1.2.2 a h1 a hb rfl
      · have := hL a (List.mem_append_right _ (List.mem_append_right _ hb)); omega
    · subst e
      rcases List.mem_append.1 hb with hb | hb
      · rcases hsub a hb with h1 | h1
        · exact hN.2.2 a ha a (List.mem_append_left _ h1) rfl
        · have := hL a (List.mem_append_left _ ha); omega
      · exact hN.2.2 a ha a (List.mem_append_right _ hb) rfl
  · intro b hb
    obtain ⟨u, hu, hb2⟩ := List.mem_flatMap.1 hb
    rcases List.mem_or_eq_of_mem_set hu with h1 | h1
    · exact h.new b (List.mem_flatMap.2 ⟨u, h1, hb2⟩)
    · rw [h1] at hb2
      rcases hsub b hb2 with h1 | h1
      · exact h.new b (SepF.mem hi h1)
      · have := h.chg.size; exact .inr (by omega)
  · intro u hu
    obtain ⟨k, hk⟩ := List.mem_iff_getElem?.1 hu
    by_cases hik : i = k
    · subst hik
      rw [List.getElem?_set_self (List.getElem?_eq_some_iff.1 hi).1] at hk
      injection hk with hk
      subst hk
      exact ht
    · rw [List.getElem?_set_ne hik] at hk
      have hu' := h.hold u (List.mem_of_getElem? hk)
      exact u.keep hu' fun b hb => hc.block b (u.lt hu' b hb) (fun hm => h.apart hi hk hik b hm hb)
theorem SepF.call (h : SepF F w0 wr ts) (i : Nat) (hi : ts[i]? = some t) (hl : Left t.fp wr W t') : SepF F w0 W (ts.set i t') := h.upd hi hl.1 hl.2.2.2 hl.2.1 hl.2.2.1
theorem SepF.upd2 (h : SepF F w0 wr ts) (hij : i ≠ j) (hi : ts[i]? = some t) (hj : ts[j]? = some s) (hc : Chg (t.fp ++ s.fp) wr W) (ht : t'.holds W) (hnd : t'.fp.Nodup) (hsub : ∀ b, b ∈ t'.fp → b ∈ t.fp ∨ b ∈ s.fp ∨ wr.heap.size ≤ b) :
    SepF F w0 W ((ts.set j tnil).set i t') := by
  have hji : (ts.set j tnil)[i]? = some t := by rw [List.getElem?_set_ne (Ne.symm hij)]; exact hi
  have h1 : SepF F w0 wr ((ts.set j tnil).set i ⟨t.fp ++ s.fp, fun w => t.holds w ∧ s.holds w, fun hh k => ⟨t.keep hh.1 fun b hb => k b (List.mem_append_left _ hb), s.keep hh.2 fun b hb => k b (List.mem_append_right _ hb)⟩,
      fun hh b hb => (List.mem_append.1 hb).elim (t.lt hh.1 b) (s.lt hh.2 b)⟩) := by
    have h2 : SepF F w0 wr (ts.set j tnil) := h.upd hj (Chg.refl _ _) trivial (by simp [tnil]) (fun b hb => by cases hb)
    have ha := h.apart hi hj hij
    have hns := h.ndat hj
    have hs := flat_split (·.fp) hji ⟨t.fp ++ s.fp, fun w => t.holds w ∧ s.holds w, fun hh k => ⟨t.keep hh.1 fun b hb => k b (List.mem_append_left _ hb), s.keep hh.2 fun b hb => k b (List.mem_append_right _ hb)⟩,
      fun hh b hb => (List.mem_append.1 hb).elim (t.lt hh.1 b) (s.lt hh.2 b)⟩
    have hN := h2.nd
    rw [hs.1, List.nodup_append, List.nodup_append] at hN
    have hap : ∀ b, b ∈ s.fp → b ∉ (ts.set j tnil).flatMap (·.fp) := fun b hb hm => by
      obtain ⟨u, hu, hb'⟩ := List.mem_flatMap.1 hm
      obtain ⟨k, hk⟩ := List.mem_iff_getElem?.1 hu
      by_cases hjk : j = k
      · subst hjk
        rw [List.getElem?_set_self (List.getElem?_eq_some_iff.1 hj).1] at hk
        injection hk with hk
        subst hk
        cases hb'
      · rw [List.getElem?_set_ne hjk] at hk
        exact h.apart hj hk hjk b hb hb'
    rw [hs.1] at hap
    refine ⟨h2.chg, ?_, ?_, ?_⟩
    · rw [hs.2, List.nodup_append, List.nodup_append]
      refine ⟨hN.1, ⟨?_, hN.2.1.2.1, fun a ha' b hb e => ?_⟩, fun a ha' b hb e => ?_⟩
      · show (t.fp ++ s.fp).Nodup
        rw [List.nodup_append]
        exact ⟨hN.2.1.1, hns, fun a h3 b h4 e => by subst e; exact ha a h3 h4⟩
      · subst e
        rcases List.mem_append.1 ha' with h3 | h3
        · exact hN.2.1.2.2 a h3 a hb rfl
        · exact hap a h3 (List.mem_append_right _ (List.mem_append_right _ hb))
      · subst e
        rcases List.mem_append.1 hb with hb | hb
        · rcases List.mem_append.1 hb with h3 | h3
          · exact hN.2.2 a ha' a (List.mem_append_left _ h3) rfl
          · exact hap a h3 (List.mem_append_left _ ha')
        · exact hN.2.2 a ha' a (List.mem_append_right _ hb) rfl
    · intro b hb
      rw [hs.2] at hb
      rcases List.mem_append.1 hb with hb | hb
      · exact h2.new b (by rw [hs.1]; exact List.mem_append_left _ hb)
      · rcases List.mem_append.1 hb with hb | hb
        · rcases List.mem_append.1 hb with h3 | h3
          · exact h.new b (SepF.mem hi h3)
          · exact h.new b (SepF.mem hj h3)
        · exact h2.new b (by rw [hs.1]; exact List.mem_append_right _ (List.mem_append_right _ hb))
    · intro u hu
      rcases List.mem_or_eq_of_mem_set hu with h3 | rfl
      · exact h2.hold u h3
      · exact ⟨h.at_ i hi, h.at_ j hj⟩
  have hlt : i < (ts.set j tnil).length := (List.getElem?_eq_some_iff.1 hji).1
  have h3 := h1.upd (i := i) (List.getElem?_set_self hlt) hc ht hnd (fun b hb => by
    rcases hsub b hb with h | h | h
    · exact .inl (List.mem_append_left _ h)
    · exact .inl (List.mem_append_right _ h)
    · exact .inr h)
  rwa [List.set_set] at h3
end
section
variable {F : List Nat} {w0 wr W2 : World} {ts : List Thing} {s : Thing} {i j : Nat}
theorem SepF.setBlk {g k : Nat} {t : TypeId} {cs : List Value} (h : SepF F w0 wr ts) (i : Nat) (hi : ts[i]? = some (tblk g t cs)) (u : Value) : SepF F w0 (wr.setCell ⟨g, k, none⟩ u) (ts.set i (tblk g t (cs.set k u))) :=
  h.upd hi ((Chg.refl _ _).setCell (by simp [tblk]) u) ((show Blk wr g t cs from h.at_ i hi).set_ k u) (by simp [tblk]) (fun b hb => .inl hb)
variable {α : Type} {E : Rep α} {e : TypeId} {xs : List α} {v : Value} {fp : List Nat} {x : α} {cx : List Value}
theorem SepF.putSl {g n c k m : Nat} {x x' : α} {u : Value} (h : SepF F w0 wr ts) (i : Nat) (hi : ts[i]? = some (tsl E e xs (.slice (some ⟨g, 0, none⟩) n c) fp)) (hk : xs[k]? = some x) (hm : m < E.size) (hx : ∀ cs fx, E.own wr x cs fx → E.own wr x' (cs.set m u) fx) :
    SepF F w0 (wr.setCell ⟨g, k * E.size + m, none⟩ u) (ts.set i (tsl E e (xs.set k x') (.slice (some ⟨g, 0, none⟩) n c) fp)) := by
  have h1 : SlOwn E e wr xs (.slice (some ⟨g, 0, none⟩) n c) fp := h.at_ i hi
  have hnd : fp.Nodup := h.ndat hi
  exact h.upd hi ((Chg.refl _ _).setCell h1.mem_block u) (h1.store hnd hk hm hx) hnd (fun b hb => .inl hb)
theorem SepF.tail {t : Thing} (h : SepF F w0 wr (t :: ts)) : SepF F w0 wr ts := ⟨h.chg, by have := h.nd; rw [List.flatMap_cons, List.nodup_append] at this; exact this.2.1, fun b hb => h.new b (by rw [List.flatMap_cons]; exact List.mem_append_right _ hb), fun t ht => h.hold t (List.mem_cons_of_mem _ ht)⟩
theorem SepF.push (h : SepF F w0 wr ts) (i j : Nat) (hij : i ≠ j) (hi : ts[i]? = some (tsl E e xs v fp)) (hj : ts[j]? = some s) (hb : Below wr.heap.size wr W2) (hx : ∀ W, s.holds W → E.own W x cx s.fp) :
    ∃ l, W2.ownsRow 0 e E.size v xs.length l ∧ ∀ gg cap w1, w1.ownsRow 0 e E.size (.slice (some ⟨gg, 0, none⟩) (xs.length + 1) cap) (xs.length + 1) (l ++ cx) → W2.grownBy w1 v.ownBlock → (v.ownBlock = some gg ∨ gg = W2.heap.size) →
      ∃ fp', SepF F w0 w1 ((ts.set j tnil).set i (tsl E e (xs ++ [x]) (.slice (some ⟨gg, 0, none⟩) (xs.length + 1) cap) fp')) := by
  have h2 := h.step hb
  have ho : SlOwn E e W2 xs v fp := h2.at_ i hi
  have hs := hx _ (h2.at_ j hj)
  obtain ⟨l, k1, k2⟩ := ho.push hs (h2.ndat hi) (h2.ndat hj) (fun b hb hm => h2.apart hi hj hij b hm hb)
  refine ⟨l, k1, fun gg cap w1 g1 g2 g3 => ?_⟩
  obtain ⟨fp', m1, m2, m3⟩ := k2 _ w1 g1 g2 (g3.elim (fun h => .inl h.symm) (fun h => .inr (by rw [h]; rfl)))
  refine ⟨fp', h2.upd2 hij hi hj ?_ m1 m2 (fun b hb => ?_)⟩
  · exact ⟨g2.os, g2.tape, g2.output, g2.size, fun k hk hn => g2.block k hk (fun hh => hn (List.mem_append_left _ (row_in ho hh.symm)))⟩
  · rcases m3 b hb with h | h | h
    · exact .inl h
    · exact .inr (.inl h)
    · exact .inr (.inr (by omega))
theorem SepF.push0 (h : SepF F w0 wr ts) (i : Nat) (hi : ts[i]? = some (tsl E e xs v fp)) (hb : Below wr.heap.size wr W2) (hx : E.own W2 x cx []) :
    ∃ l, W2.ownsRow 0 e E.size v xs.length l ∧ ∀ gg cap w1, w1.ownsRow 0 e E.size (.slice (some ⟨gg, 0, none⟩) (xs.length + 1) cap) (xs.length + 1) (l ++ cx) → W2.grownBy w1 v.ownBlock → (v.ownBlock = some gg ∨ gg = W2.heap.size) →
      ∃ fp', SepF F w0 w1 (ts.set i (tsl E e (xs ++ [x]) (.slice (some ⟨gg, 0, none⟩) (xs.length + 1) cap) fp')) := by
  have h2 := h.step hb
  have ho : SlOwn E e W2 xs v fp := h2.at_ i hi
  obtain ⟨l, k1, k2⟩ := ho.push hx (h2.ndat hi) List.nodup_nil (fun b hb => by cases hb)
  refine ⟨l, k1, fun gg cap w1 g1 g2 g3 => ?_⟩
  obtain ⟨fp', m1, m2, m3⟩ := k2 _ w1 g1 g2 (g3.elim (fun h => .inl h.symm) (fun h => .inr (by rw [h]; rfl)))
  refine ⟨fp', h2.upd hi ?_ m1 m2 (fun b hb => ?_)⟩
  · exact ⟨g2.os, g2.tape, g2.output, g2.size, fun k hk hn => g2.block k hk (fun hh => hn (row_in ho hh.symm))⟩
  · rcases m3 b hb with h | h | h
    · exact .inl h
    · cases h
    · exact .inr (by omega)
theorem SepF.putIn {g n c k : Nat} (h : SepF F w0 wr ts) (i : Nat) (hi : ts[i]? = some (tsl E e xs (.slice (some ⟨g, 0, none⟩) n c) fp)) (hk : xs[k]? = some x) :
    ∃ cs fx, E.own wr x cs fx ∧ fx.Nodup ∧ (∀ b, b ∈ fx → b ∈ fp ∧ b ≠ g) ∧ (∀ j u, cs[j]? = some u → wr.cell? ⟨g, k * E.size + j, none⟩ = some u) ∧
      ∀ W x' fx', Chg fx wr W → E.own W x' cs fx' → fx'.Nodup → (∀ b, b ∈ fx' → b ∈ fx) → ∃ fp', SepF F w0 W (ts.set i (tsl E e (xs.set k x') (.slice (some ⟨g, 0, none⟩) n c) fp')) := by
  have h1 : SlOwn E e wr xs (.slice (some ⟨g, 0, none⟩) n c) fp := h.at_ i hi
  obtain ⟨cs, fx, k1, k2, k3, k4, k5⟩ := h1.inner (h.ndat hi) hk
  refine ⟨cs, fx, k1, k2, k3, k4, fun W x' fx' m1 m2 m3 m4 => ?_⟩
  obtain ⟨fp', p1, p2, p3⟩ := k5 W x' fx' m1 m2 m3 m4
  exact ⟨fp', h.upd hi (m1.more fun b hb => (k3 b hb).1) p1 p2 (fun b hb => .inl (p3 b hb))⟩
theorem SepF.cell {g k : Nat} {t : TypeId} {cs : List Value} {u : Value} (h : SepF F w0 wr ts) (i : Nat) (hi : ts[i]? = some (tblk g t cs)) (hu : cs[k]? = some u) : wr.cell? ⟨g, k, none⟩ = some u := (show Blk wr g t cs from h.at_ i hi).cell hu
theorem SepF.frz {g k : Nat} {t : TypeId} {cs : List Value} (h : SepF F w0 wr ts) (i : Nat) (hi : ts[i]? = some (tblk g t cs)) : wr.frozen? ⟨g, k, none⟩ = false := (show Blk wr g t cs from h.at_ i hi).frozen k
theorem SepF.blk {g : Nat} {t : TypeId} {cs : List Value} (h : SepF F w0 wr ts) (i : Nat) (hi : ts[i]? = some (tblk g t cs)) : g < wr.heap.size ∧ (g ∈ F ∨ w0.heap.size ≤ g) := ⟨(show Blk wr g t cs from h.at_ i hi).lt, h.new g (SepF.mem hi (by simp [tblk]))⟩
theorem SepF.sl (h : SepF F w0 wr ts) (i : Nat) (hi : ts[i]? = some (tsl E e xs v fp)) : SlOwn E e wr xs v fp := h.at_ i hi
theorem SepF.slnew (h : SepF F w0 wr ts) (i : Nat) (hi : ts[i]? = some (tsl E e xs v fp)) : ∀ b, b ∈ fp → (b ∈ F ∨ w0.heap.size ≤ b) ∧ b < wr.heap.size := fun b hb => ⟨h.new b (SepF.mem hi hb), (show SlOwn E e wr xs v fp from h.at_ i hi).olt b hb⟩
end
end Mm
end Go.Proofs.YtbhmdnjammnlnaaGreatDoor

namespace Go.Proofs.YtbhmdnjammnlnaaGreatDoor
open Go.RowKit
namespace Mm
section
variable {F : List Nat} {w0 wr W : World} {ts : List Thing} {t a b c d x y : Thing}
theorem SepF.addEnd (h : SepF F w0 wr ts) (hb : Below wr.heap.size wr W) (ht : t.holds W) (hnd : t.fp.Nodup) (hnew : ∀ b, b ∈ t.fp → wr.heap.size ≤ b) : SepF F w0 W (ts ++ [t]) :=
  (h.add hb ht hnd hnew).conv (by simp only [List.flatMap_append, List.flatMap_cons, List.flatMap_nil, List.append_nil]; exact List.perm_append_comm) (fun u hu => by
    rcases List.mem_append.1 hu with hu | hu
    · exact (h.step hb).hold u hu
    · rw [List.mem_singleton.1 hu]; exact ht)
theorem SepF.sel (h : SepF F w0 wr ts) : ∀ (is : List Nat) {us : List Thing}, is.Nodup → us = is.filterMap (fun i => ts[i]?) → SepF F w0 wr us
  | [], us, _, hu => by subst hu; exact ⟨h.chg, by simp, by simp, by simp⟩
  | i :: is, us, hn, hu => by
    rw [List.nodup_cons] at hn
    have ih := SepF.sel h is (us := is.filterMap (fun i => ts[i]?)) hn.2 rfl
    cases hi : ts[i]? with
    | none => rw [List.filterMap_cons, hi] at hu; rw [hu]; exact ih
    | some t =>
      rw [List.filterMap_cons, hi] at hu
      rw [hu]
      refine ⟨h.chg, ?_, fun b hb => ?_, fun u hu => ?_⟩
      · rw [List.flatMap_cons, List.nodup_append]
        refine ⟨h.ndat hi, ih.nd, fun a ha b hb e => ?_⟩
        subst e
        obtain ⟨s, hs, hb⟩ := List.mem_flatMap.1 hb
        obtain ⟨j, hj, hs⟩ := List.mem_filterMap.1 hs
        exact h.apart hi hs (fun e => hn.1 (e ▸ hj)) a ha hb
      · rw [List.flatMap_cons] at hb
        rcases List.mem_append.1 hb with hb | hb
        · exact h.new b (SepF.mem hi hb)
        · exact ih.new b hb
      · rcases List.mem_cons.1 hu with rfl | hu
        · exact h.at_ i hi
        · exact ih.hold u hu
theorem SepF.callAll {us : List Thing} (h : SepF F w0 wr ts) (i : Nat) (hi : ts[i]? = some t) (hS : SepF t.fp wr W us) : SepF F w0 W (ts.set i tnil ++ us) := by
  have h1 := h.upd (t' := ⟨us.flatMap (·.fp), fun w => ∀ u, u ∈ us → u.holds w, fun hh k u hu => u.keep (hh u hu) fun b hb => k b (List.mem_flatMap.2 ⟨u, hu, hb⟩), fun hh b hb => by
    obtain ⟨u, hu, hb⟩ := List.mem_flatMap.1 hb
    exact u.lt (hh u hu) b hb⟩) hi hS.chg hS.hold hS.nd hS.new
  have e1 := (flat_split (·.fp) hi ⟨us.flatMap (·.fp), fun w => ∀ u, u ∈ us → u.holds w, fun hh k u hu => u.keep (hh u hu) fun b hb => k b (List.mem_flatMap.2 ⟨u, hu, hb⟩), fun hh b hb => by
    obtain ⟨u, hu, hb⟩ := List.mem_flatMap.1 hb
    exact u.lt (hh u hu) b hb⟩).2
  have e2 := (flat_split (·.fp) hi tnil).2
  refine h1.conv ?_ (fun u hu => ?_)
  · rw [List.flatMap_append, e1, e2]
    simp only [tnil, List.nil_append, List.append_assoc]
    exact List.Perm.append_left _ List.perm_append_comm
  · rcases List.mem_append.1 hu with hu | hu
    · obtain ⟨k, hk⟩ := List.mem_iff_getElem?.1 hu
      by_cases hik : i = k
      · subst hik
        rw [List.getElem?_set_self (List.getElem?_eq_some_iff.1 hi).1] at hk
        injection hk with hk
        subst hk
        exact trivial
      · refine h1.hold u (List.mem_of_getElem? (i := k) ?_)
        rw [List.getElem?_set_ne hik] at hk ⊢
        exact hk
    · exact hS.hold u hu
theorem SepF.start (w : World) : SepF [] w w [] := ⟨Chg.refl _ _, by simp, by simp, by simp⟩
theorem SepF.bel0 (h : SepF [] w0 wr ts) : Below w0.heap.size w0 wr := Below.chg (Below.refl _ _) h.chg (Nat.le_refl _) (by simp)
end
theorem SepF.rd {α : Type} {R : Rep α} {F : List Nat} {w0 wr : World} {ts : List Thing} {x : α} {cs : List Value} {fp : List Nat} (h : SepF F w0 wr ts) (i : Nat) (hi : ts[i]? = some (tow R x cs fp)) : R.at_ wr wr.heap.size x cs := by
  have h1 : R.own wr x cs fp := h.at_ i hi
  exact R.weak h1 (R.olt h1)
end Mm
end Go.Proofs.YtbhmdnjammnlnaaGreatDoor

namespace Go.Proofs.YtbhmdnjammnlnaaGreatDoor
open Go.RowKit
namespace Mm
structure Fact where
  holds : World → Prop
  keep : ∀ {w w' : World}, holds w → Below w.heap.size w w' → holds w'
def frd {α : Type} (R : Rep α) (x : α) (cs : List Value) : Fact := ⟨fun w => R.at_ w w.heap.size x cs, fun h hb => R.more (R.keep h fun b hb' => hb.block b hb') hb.size⟩
def fsl {α : Type} (E : Rep α) (xs : List α) (A : Option Addr) (n c : Nat) : Fact := ⟨fun w => SlAt E w w.heap.size xs A n c, fun h hb => (h.keep fun b hb' => hb.block b hb').more hb.size⟩
def fbk (g : Nat) (t : TypeId) (cs : List Value) : Fact := ⟨fun w => Blk w g t cs, fun h hb => h.bel hb⟩
structure Facts (w0 w : World) (fs : List Fact) : Prop where
  bel : Below w0.heap.size w0 w
  all : ∀ f, f ∈ fs → f.holds w
section
variable {w0 w w' : World} {fs gs : List Fact} {f : Fact}
theorem Facts.nil (w : World) : Facts w w [] := ⟨Below.refl _ _, fun f h => by cases h⟩
theorem Facts.step (h : Facts w0 w fs) (hb : Below w.heap.size w w') : Facts w0 w' fs := ⟨below_step h.bel hb, fun f hf => f.keep (h.all f hf) hb⟩
theorem Facts.add (h : Facts w0 w fs) (hb : Below w.heap.size w w') (hf : f.holds w') : Facts w0 w' (fs ++ [f]) :=
  ⟨below_step h.bel hb, fun g hg => by
    rcases List.mem_append.1 hg with hg | hg
    · exact g.keep (h.all g hg) hb
    · rw [List.mem_singleton.1 hg]; exact hf⟩
theorem Facts.put (h : Facts w0 w fs) (hf : f.holds w) : Facts w0 w (fs ++ [f]) := h.add (Below.refl _ _) hf
theorem Facts.var {g : Nat} (h : Facts w0 w fs) (hg : w.heap.size = g) (t : TypeId) (cs : List Value) : Facts w0 (w.alloc (.cells cs.toArray t)) (fs ++ [fbk g t cs]) := by
  subst hg
  exact h.add (below_new (Below.refl _ _) _) (Blk.new w t cs)
theorem Facts.at_ (h : Facts w0 w fs) (i : Nat) (hi : fs[i]? = some f) : f.holds w := h.all f (List.mem_of_getElem? hi)
theorem Facts.rd {α : Type} {R : Rep α} {x : α} {cs : List Value} (h : Facts w0 w fs) (i : Nat) (hi : fs[i]? = some (frd R x cs)) : R.at_ w w.heap.size x cs := h.at_ i hi
theorem Facts.sl {α : Type} {E : Rep α} {xs : List α} {A : Option Addr} {n c : Nat} (h : Facts w0 w fs) (i : Nat) (hi : fs[i]? = some (fsl E xs A n c)) : SlAt E w w.heap.size xs A n c := h.at_ i hi
theorem Facts.cell {g k : Nat} {t : TypeId} {cs : List Value} {u : Value} (h : Facts w0 w fs) (i : Nat) (hi : fs[i]? = some (fbk g t cs)) (hu : cs[k]? = some u) : w.cell? ⟨g, k, none⟩ = some u := (show Blk w g t cs from h.at_ i hi).cell hu
theorem Facts.und (h : Facts w0 w fs) (x : Und w) : Facts w0 (und w x) fs := h.step x.h
end
end Mm
end Go.Proofs.YtbhmdnjammnlnaaGreatDoor

namespace Go.Proofs.YtbhmdnjammnlnaaGreatDoor
structure Sample where
  At : Int
  Value : Int
structure Window where
  From : Int
  First : Int
  Last : Int
  Count : Int
  Rise : Int
structure Told where
  Who : Int
  No : Int
  Text : ByteArray
structure Note where
  Back : Bool
  What : Told
structure TellStep where
  Kind : Int
  K : Int
  Text : ByteArray
structure SnapStep where
  Kind : Int
  From : Int
  To : Int
  Many : Int
structure Say where
  Name : ByteArray
  At : Int
  Value : Int
structure Label where
  Name : ByteArray
  Value : ByteArray
structure Entry where
  Epoch : Int
  Text : ByteArray
structure Start where
  Epoch : Int
  At : Int
structure Letter where
  From : Int
  To : Int
  Term : Int
  Ask : Bool
  Age : Int
structure VoteStep where
  Kind : Int
  K : Int
structure ReplStep where
  Kind : Int
  Node : Int
  Text : ByteArray
structure HouseStep where
  Kind : Int
  Part : Int
  What : Say
structure Token where
  At : Int
  Owner : Int
structure Row where
  Name : ByteArray
  Samples : (List Sample)
structure Head where
  Rows : (List Row)
  Offset : Int
structure Item where
  Labels : (List Label)
  Value : Int
structure Total where
  Labels : (List Label)
  Sum : Int
  Count : Int
  Least : Int
  Most : Int
structure Sketch where
  Rows : (List (List Int))
  Total : Int
structure Heavy where
  Names : (List ByteArray)
  Counts : (List Int)
  Gone : Int
  Total : Int
structure Piece where
  From : Int
  Bytes : ByteArray
  Index : (List Int)
structure Log where
  Pieces : (List Piece)
  Begin : Int
structure House where
  Logs : (List Log)
  Heads : (List Head)
  Kept : (List Head)
structure Tell where
  Texts : (List (List ByteArray))
  Heard : (List Int)
  Line : (List Note)
  Log : (List Told)
  Next : (List Int)
structure Bank where
  Coins : (List Int)
  Ways : (List (List Int))
  Kept : (List Int)
  Heard : (List (List Bool))
  Found : (List (List Int))
structure Node where
  Term : Int
  Voted : Int
  Age : Int
  Heard : (List Int)
  Role : Int
structure Poll where
  Nodes : (List Node)
  Letters : (List Letter)
  Leaders : (List (List Int))
structure Repl where
  Logs : (List (List Entry))
  Down : (List Bool)
  Leader : Int
  Epoch : Int
  InSync : (List Int)
  Certain : (List Entry)
namespace Pl
end Pl
namespace Pl
def sz0 {α : Type} (_ : α) : Int := 0
def szStr (s : ByteArray) : Int := (s.size : Int)
def sumI {α : Type} (f : α → Int) : List α → Int
  | [] => 0
  | x :: t => f x + sumI f t
def szl {α : Type} (f : α → Int) (l : List α) : Int := (l.length : Int) + sumI f l
theorem sumI_nn {α : Type} {f : α → Int} (h : ∀ x, 0 ≤ f x) : ∀ l : List α, 0 ≤ sumI f l
  | [] => by simp [sumI]
  | x :: t => by have := sumI_nn h t; have := h x; show 0 ≤ f x + sumI f t; omega
theorem sz0_nn {α : Type} (x : α) : 0 ≤ sz0 x := Int.le_refl _
theorem szStr_nn (s : ByteArray) : 0 ≤ szStr s := by unfold szStr; omega
theorem szl_nn {α : Type} {f : α → Int} (h : ∀ x, 0 ≤ f x) (l : List α) : 0 ≤ szl f l := by have := sumI_nn h l; unfold szl; omega
def szRow (x : Row) : Int := Pl.szStr x.Name + (Pl.szl Pl.sz0) x.Samples
theorem szRow_nn (x : Row) : 0 ≤ szRow x := by
  have h0 := szStr_nn x.Name
  have h1 := szl_nn (f := sz0) (sz0_nn) x.Samples
  unfold szRow; omega
def szHead (x : Head) : Int := (Pl.szl Pl.szRow) x.Rows
theorem szHead_nn (x : Head) : 0 ≤ szHead x := by
  have h0 := szl_nn (f := szRow) (szRow_nn) x.Rows
  unfold szHead; omega
def szPiece (x : Piece) : Int := Pl.szStr x.Bytes + (Pl.szl Pl.sz0) x.Index
theorem szPiece_nn (x : Piece) : 0 ≤ szPiece x := by
  have h0 := szStr_nn x.Bytes
  have h1 := szl_nn (f := sz0) (sz0_nn) x.Index
  unfold szPiece; omega
def szLog (x : Log) : Int := (Pl.szl Pl.szPiece) x.Pieces
theorem szLog_nn (x : Log) : 0 ≤ szLog x := by
  have h0 := szl_nn (f := szPiece) (szPiece_nn) x.Pieces
  unfold szLog; omega
def szHouse (x : House) : Int := (Pl.szl Pl.szLog) x.Logs + (Pl.szl Pl.szHead) x.Heads + (Pl.szl Pl.szHead) x.Kept
end Pl
end Go.Proofs.YtbhmdnjammnlnaaGreatDoor

namespace Go.Proofs.YtbhmdnjammnlnaaGreatDoor
namespace Pl
def cnt1 {α : Type} (_ : α) : Int := 1
def cntSample (_ : Sample) : Int := 1 + 1
def cntRow (x : Row) : Int := 1 + (Mm.cntL Pl.cntSample) x.Samples
def cntHead (x : Head) : Int := (Mm.cntL Pl.cntRow) x.Rows + 1
def cntPiece (x : Piece) : Int := 1 + 1 + (Mm.cntL Pl.cnt1) x.Index
def cntLog (x : Log) : Int := (Mm.cntL Pl.cntPiece) x.Pieces + 1
def ctopHouse (x : House) : Int := (Mm.cntL Pl.cntLog) x.Logs + (Mm.cntL Pl.cntHead) x.Heads + (Mm.cntL Pl.cntHead) x.Kept
end Pl
namespace Pl
end Pl
namespace Pl
end Pl
end Go.Proofs.YtbhmdnjammnlnaaGreatDoor

namespace Go.Proofs.YtbhmdnjammnlnaaGreatDoor
def smp : Mm.Rep Sample := Mm.flat 2 (fun x => [.int .i64 x.At, .int .i64 x.Value]) (fun x => Mm.I64 x.At ∧ Mm.I64 x.Value) (fun _ => rfl) (fun _ u hu => by
  simp at hu; rcases hu with rfl | rfl <;> rfl)
theorem smp_at {w : World} {B : Nat} {x : Sample} {cs : List Value} (h : smp.at_ w B x cs) : cs = [.int .i64 x.At, .int .i64 x.Value] ∧ Mm.I64 x.At ∧ Mm.I64 x.Value := h
theorem smp_own_mk {w : World} {x : Sample} (h : Mm.I64 x.At ∧ Mm.I64 x.Value) : smp.own w x [.int .i64 x.At, .int .i64 x.Value] [] := ⟨rfl, h, rfl⟩
def rSay : Mm.Rep Say := Mm.flat 3 (fun x => [.string x.Name, .int .i64 x.At, .int .i64 x.Value]) (fun x => x.Name.size ≤ maxLen ∧ Mm.I64 x.At ∧ Mm.I64 x.Value) (fun _ => rfl) (fun _ u hu => by
  simp at hu; rcases hu with rfl | rfl | rfl <;> rfl)
theorem rSay_at {w : World} {B : Nat} {x : Say} {cs : List Value} (h : rSay.at_ w B x cs) : cs = [.string x.Name, .int .i64 x.At, .int .i64 x.Value] ∧ x.Name.size ≤ maxLen ∧ Mm.I64 x.At ∧ Mm.I64 x.Value := h
theorem rSay_own_mk {w : World} {x : Say} (h : x.Name.size ≤ maxLen ∧ Mm.I64 x.At ∧ Mm.I64 x.Value) : rSay.own w x [.string x.Name, .int .i64 x.At, .int .i64 x.Value] [] := ⟨rfl, h, rfl⟩
def rHouseStep : Mm.Rep HouseStep := Mm.flat 5 (fun x => [.int .i64 x.Kind, .int .i64 x.Part, .string x.What.Name, .int .i64 x.What.At, .int .i64 x.What.Value]) (fun x => Mm.I64 x.Kind ∧ Mm.I64 x.Part ∧ x.What.Name.size ≤ maxLen ∧ Mm.I64 x.What.At ∧ Mm.I64 x.What.Value) (fun _ => rfl) (fun _ u hu => by
  simp at hu; rcases hu with rfl | rfl | rfl | rfl | rfl <;> rfl)
theorem rHouseStep_at {w : World} {B : Nat} {x : HouseStep} {cs : List Value} (h : rHouseStep.at_ w B x cs) : cs = [.int .i64 x.Kind, .int .i64 x.Part, .string x.What.Name, .int .i64 x.What.At, .int .i64 x.What.Value] ∧ Mm.I64 x.Kind ∧ Mm.I64 x.Part ∧ x.What.Name.size ≤ maxLen ∧ Mm.I64 x.What.At ∧ Mm.I64 x.What.Value := h
theorem rHouseStep_own {w : World} {x : HouseStep} {cs : List Value} {fp : List Nat} (h : rHouseStep.own w x cs fp) : cs = [.int .i64 x.Kind, .int .i64 x.Part, .string x.What.Name, .int .i64 x.What.At, .int .i64 x.What.Value] ∧ (Mm.I64 x.Kind ∧ Mm.I64 x.Part ∧ x.What.Name.size ≤ maxLen ∧ Mm.I64 x.What.At ∧ Mm.I64 x.What.Value) ∧ fp = [] := h
theorem rHouseStep_own_mk {w : World} {x : HouseStep} (h : Mm.I64 x.Kind ∧ Mm.I64 x.Part ∧ x.What.Name.size ≤ maxLen ∧ Mm.I64 x.What.At ∧ Mm.I64 x.What.Value) : rHouseStep.own w x [.int .i64 x.Kind, .int .i64 x.Part, .string x.What.Name, .int .i64 x.What.At, .int .i64 x.What.Value] [] := ⟨rfl, h, rfl⟩
def rSampleS : Mm.Rep (List Sample) := Mm.slice smp 124
def rRow : Mm.Rep Row := Mm.iso (fun x => (x.Name, x.Samples)) (Mm.pair Mm.str rSampleS)
theorem rRow_at {w : World} {B : Nat} {x : Row} {cs : List Value} (h : rRow.at_ w B x cs) : ∃ A n c, cs = [.string x.Name, .slice A n c] ∧ x.Name.size ≤ maxLen ∧ Mm.SlAt smp w B x.Samples A n c := by
  obtain ⟨_, _, rfl, ⟨rfl, h0⟩, ⟨A, n, c, rfl, h1⟩⟩ := h
  exact ⟨A, n, c, rfl, h0, h1⟩
theorem rRow_own {w : World} {x : Row} {cs : List Value} {fp : List Nat} (h : rRow.own w x cs fp) : ∃ A n c f, cs = [.string x.Name, .slice A n c] ∧ fp = f ∧ x.Name.size ≤ maxLen ∧ Mm.SlOwn smp 124 w x.Samples (.slice A n c) f := by
  obtain ⟨_, _, _, _, rfl, rfl, ⟨rfl, h0, rfl⟩, ⟨v1, rfl, h1⟩⟩ := h
  obtain ⟨A, n, c, rfl, _⟩ := h1.form
  exact ⟨A, n, c, _, rfl, by simp, h0, h1⟩
theorem rRow_own_mk {w : World} {x : Row} {A : Option Addr} {n c : Nat} {f : List Nat} (g0 : x.Name.size ≤ maxLen) (g1 : Mm.SlOwn smp 124 w x.Samples (.slice A n c) f) : rRow.own w x [.string x.Name, .slice A n c] (f) := by
  have h : rRow.own w x _ _ := ⟨_, _, _, _, rfl, rfl, ⟨rfl, g0, rfl⟩, ⟨_, rfl, g1⟩⟩
  simpa using h
def rRowS : Mm.Rep (List Row) := Mm.slice rRow 139
def rHead : Mm.Rep Head := Mm.iso (fun x => (x.Rows, x.Offset)) (Mm.pair rRowS Mm.int)
theorem rHead_at {w : World} {B : Nat} {x : Head} {cs : List Value} (h : rHead.at_ w B x cs) : ∃ A n c, cs = [.slice A n c, .int .i64 x.Offset] ∧ Mm.SlAt rRow w B x.Rows A n c ∧ Mm.I64 x.Offset := by
  obtain ⟨_, _, rfl, ⟨A, n, c, rfl, h0⟩, ⟨rfl, h1⟩⟩ := h
  exact ⟨A, n, c, rfl, h0, h1⟩
theorem rHead_at_mk {w : World} {B : Nat} {x : Head} {A : Option Addr} {n c : Nat} (g0 : Mm.SlAt rRow w B x.Rows A n c) (g1 : Mm.I64 x.Offset) : rHead.at_ w B x [.slice A n c, .int .i64 x.Offset] :=
  ⟨_, _, rfl, ⟨A, n, c, rfl, g0⟩, ⟨rfl, g1⟩⟩
theorem rHead_own {w : World} {x : Head} {cs : List Value} {fp : List Nat} (h : rHead.own w x cs fp) : ∃ A n c f, cs = [.slice A n c, .int .i64 x.Offset] ∧ fp = f ∧ Mm.SlOwn rRow 139 w x.Rows (.slice A n c) f ∧ Mm.I64 x.Offset := by
  obtain ⟨_, _, _, _, rfl, rfl, ⟨v0, rfl, h0⟩, ⟨rfl, h1, rfl⟩⟩ := h
  obtain ⟨A, n, c, rfl, _⟩ := h0.form
  exact ⟨A, n, c, _, rfl, by simp, h0, h1⟩
theorem rHead_own_mk {w : World} {x : Head} {A : Option Addr} {n c : Nat} {f : List Nat} (g0 : Mm.SlOwn rRow 139 w x.Rows (.slice A n c) f) (g1 : Mm.I64 x.Offset) : rHead.own w x [.slice A n c, .int .i64 x.Offset] (f) := by
  have h : rHead.own w x _ _ := ⟨_, _, _, _, rfl, rfl, ⟨_, rfl, g0⟩, ⟨rfl, g1, rfl⟩⟩
  simpa using h
def ints : Mm.Rep (List Int) := Mm.slice Mm.int 3
def rPiece : Mm.Rep Piece := Mm.iso (fun x => (x.From, (x.Bytes, x.Index))) (Mm.pair Mm.int (Mm.pair Mm.str ints))
theorem rPiece_at {w : World} {B : Nat} {x : Piece} {cs : List Value} (h : rPiece.at_ w B x cs) : ∃ A n c, cs = [.int .i64 x.From, .string x.Bytes, .slice A n c] ∧ Mm.I64 x.From ∧ x.Bytes.size ≤ maxLen ∧ Mm.SlAt Mm.int w B x.Index A n c := by
  obtain ⟨_, _, rfl, ⟨rfl, h0⟩, ⟨_, _, rfl, ⟨rfl, h1⟩, ⟨A, n, c, rfl, h2⟩⟩⟩ := h
  exact ⟨A, n, c, rfl, h0, h1, h2⟩
theorem rPiece_at_mk {w : World} {B : Nat} {x : Piece} {A : Option Addr} {n c : Nat} (g0 : Mm.I64 x.From) (g1 : x.Bytes.size ≤ maxLen) (g2 : Mm.SlAt Mm.int w B x.Index A n c) : rPiece.at_ w B x [.int .i64 x.From, .string x.Bytes, .slice A n c] :=
  ⟨_, _, rfl, ⟨rfl, g0⟩, ⟨_, _, rfl, ⟨rfl, g1⟩, ⟨A, n, c, rfl, g2⟩⟩⟩
theorem rPiece_own {w : World} {x : Piece} {cs : List Value} {fp : List Nat} (h : rPiece.own w x cs fp) : ∃ A n c f, cs = [.int .i64 x.From, .string x.Bytes, .slice A n c] ∧ fp = f ∧ Mm.I64 x.From ∧ x.Bytes.size ≤ maxLen ∧ Mm.SlOwn Mm.int 3 w x.Index (.slice A n c) f := by
  obtain ⟨_, _, _, _, rfl, rfl, ⟨rfl, h0, rfl⟩, ⟨_, _, _, _, rfl, rfl, ⟨rfl, h1, rfl⟩, ⟨v2, rfl, h2⟩⟩⟩ := h
  obtain ⟨A, n, c, rfl, _⟩ := h2.form
  exact ⟨A, n, c, _, rfl, by simp, h0, h1, h2⟩
theorem rPiece_own_mk {w : World} {x : Piece} {A : Option Addr} {n c : Nat} {f : List Nat} (g0 : Mm.I64 x.From) (g1 : x.Bytes.size ≤ maxLen) (g2 : Mm.SlOwn Mm.int 3 w x.Index (.slice A n c) f) : rPiece.own w x [.int .i64 x.From, .string x.Bytes, .slice A n c] (f) := by
  have h : rPiece.own w x _ _ := ⟨_, _, _, _, rfl, rfl, ⟨rfl, g0, rfl⟩, ⟨_, _, _, _, rfl, rfl, ⟨rfl, g1, rfl⟩, ⟨_, rfl, g2⟩⟩⟩
  simpa using h
def rPieceS : Mm.Rep (List Piece) := Mm.slice rPiece 164
def rLog : Mm.Rep Log := Mm.iso (fun x => (x.Pieces, x.Begin)) (Mm.pair rPieceS Mm.int)
theorem rLog_at {w : World} {B : Nat} {x : Log} {cs : List Value} (h : rLog.at_ w B x cs) : ∃ A n c, cs = [.slice A n c, .int .i64 x.Begin] ∧ Mm.SlAt rPiece w B x.Pieces A n c ∧ Mm.I64 x.Begin := by
  obtain ⟨_, _, rfl, ⟨A, n, c, rfl, h0⟩, ⟨rfl, h1⟩⟩ := h
  exact ⟨A, n, c, rfl, h0, h1⟩
theorem rLog_at_mk {w : World} {B : Nat} {x : Log} {A : Option Addr} {n c : Nat} (g0 : Mm.SlAt rPiece w B x.Pieces A n c) (g1 : Mm.I64 x.Begin) : rLog.at_ w B x [.slice A n c, .int .i64 x.Begin] :=
  ⟨_, _, rfl, ⟨A, n, c, rfl, g0⟩, ⟨rfl, g1⟩⟩
theorem rLog_own {w : World} {x : Log} {cs : List Value} {fp : List Nat} (h : rLog.own w x cs fp) : ∃ A n c f, cs = [.slice A n c, .int .i64 x.Begin] ∧ fp = f ∧ Mm.SlOwn rPiece 164 w x.Pieces (.slice A n c) f ∧ Mm.I64 x.Begin := by
  obtain ⟨_, _, _, _, rfl, rfl, ⟨v0, rfl, h0⟩, ⟨rfl, h1, rfl⟩⟩ := h
  obtain ⟨A, n, c, rfl, _⟩ := h0.form
  exact ⟨A, n, c, _, rfl, by simp, h0, h1⟩
theorem rLog_own_mk {w : World} {x : Log} {A : Option Addr} {n c : Nat} {f : List Nat} (g0 : Mm.SlOwn rPiece 164 w x.Pieces (.slice A n c) f) (g1 : Mm.I64 x.Begin) : rLog.own w x [.slice A n c, .int .i64 x.Begin] (f) := by
  have h : rLog.own w x _ _ := ⟨_, _, _, _, rfl, rfl, ⟨_, rfl, g0⟩, ⟨rfl, g1, rfl⟩⟩
  simpa using h
def rLogS : Mm.Rep (List Log) := Mm.slice rLog 80
def rHeadS : Mm.Rep (List Head) := Mm.slice rHead 73
def rHouse : Mm.Rep House := Mm.iso (fun x => (x.Logs, (x.Heads, x.Kept))) (Mm.pair rLogS (Mm.pair rHeadS rHeadS))
theorem rHouse_at {w : World} {B : Nat} {x : House} {cs : List Value} (h : rHouse.at_ w B x cs) : ∃ A0 n0 c0 A1 n1 c1 A2 n2 c2, cs = [.slice A0 n0 c0, .slice A1 n1 c1, .slice A2 n2 c2] ∧ Mm.SlAt rLog w B x.Logs A0 n0 c0 ∧ Mm.SlAt rHead w B x.Heads A1 n1 c1 ∧ Mm.SlAt rHead w B x.Kept A2 n2 c2 := by
  obtain ⟨_, _, rfl, ⟨A0, n0, c0, rfl, h0⟩, ⟨_, _, rfl, ⟨A1, n1, c1, rfl, h1⟩, ⟨A2, n2, c2, rfl, h2⟩⟩⟩ := h
  exact ⟨A0, n0, c0, A1, n1, c1, A2, n2, c2, rfl, h0, h1, h2⟩
theorem rHouse_own {w : World} {x : House} {cs : List Value} {fp : List Nat} (h : rHouse.own w x cs fp) : ∃ A0 n0 c0 A1 n1 c1 A2 n2 c2 f0 f1 f2, cs = [.slice A0 n0 c0, .slice A1 n1 c1, .slice A2 n2 c2] ∧ fp = f0 ++ (f1 ++ f2) ∧ Mm.SlOwn rLog 80 w x.Logs (.slice A0 n0 c0) f0 ∧ Mm.SlOwn rHead 73 w x.Heads (.slice A1 n1 c1) f1 ∧ Mm.SlOwn rHead 73 w x.Kept (.slice A2 n2 c2) f2 := by
  obtain ⟨_, _, _, _, rfl, rfl, ⟨v0, rfl, h0⟩, ⟨_, _, _, _, rfl, rfl, ⟨v1, rfl, h1⟩, ⟨v2, rfl, h2⟩⟩⟩ := h
  obtain ⟨A0, n0, c0, rfl, _⟩ := h0.form
  obtain ⟨A1, n1, c1, rfl, _⟩ := h1.form
  obtain ⟨A2, n2, c2, rfl, _⟩ := h2.form
  exact ⟨A0, n0, c0, A1, n1, c1, A2, n2, c2, _, _, _, rfl, by simp, h0, h1, h2⟩
theorem rHouse_own_mk {w : World} {x : House} {A0 : Option Addr} {n0 c0 : Nat} {A1 : Option Addr} {n1 c1 : Nat} {A2 : Option Addr} {n2 c2 : Nat} {f0 f1 f2 : List Nat} (g0 : Mm.SlOwn rLog 80 w x.Logs (.slice A0 n0 c0) f0) (g1 : Mm.SlOwn rHead 73 w x.Heads (.slice A1 n1 c1) f1) (g2 : Mm.SlOwn rHead 73 w x.Kept (.slice A2 n2 c2) f2) : rHouse.own w x [.slice A0 n0 c0, .slice A1 n1 c1, .slice A2 n2 c2] (f0 ++ (f1 ++ f2)) := by
  have h : rHouse.own w x _ _ := ⟨_, _, _, _, rfl, rfl, ⟨_, rfl, g0⟩, ⟨_, _, _, _, rfl, rfl, ⟨_, rfl, g1⟩, ⟨_, rfl, g2⟩⟩⟩
  simpa using h
theorem int_get {w : World} {B : Nat} {l : List Int} {A : Option Addr} {n c k : Nat} (h : Mm.SlAt Mm.int w B l A n c) (hk : k < n) :
    ∃ x b off, l[k]? = some x ∧ A = some ⟨b, off, none⟩ ∧ b < B ∧ Mm.I64 x ∧ w.cell? ⟨b, off + k, none⟩ = some (.int .i64 x) := by
  obtain ⟨x, b, off, cs, hx, hA, hb, ha, hc⟩ := h.get hk
  obtain ⟨rfl, g0⟩ := ha
  exact ⟨x, b, off, hx, hA, hb, g0, (by rw [show off + k = off + k * Mm.int.size + 0 by show _ = off + k * 1 + 0; omega]; exact hc 0 _ rfl)⟩
theorem smp_get {w : World} {B : Nat} {l : List Sample} {A : Option Addr} {n c k : Nat} (h : Mm.SlAt smp w B l A n c) (hk : k < n) :
    ∃ x b off, l[k]? = some x ∧ A = some ⟨b, off, none⟩ ∧ b < B ∧ Mm.I64 x.At ∧ Mm.I64 x.Value ∧ w.cell? ⟨b, off + k * 2, none⟩ = some (.int .i64 x.At) ∧ w.cell? ⟨b, off + k * 2 + 1, none⟩ = some (.int .i64 x.Value) := by
  obtain ⟨x, b, off, cs, hx, hA, hb, ha, hc⟩ := h.get hk
  obtain ⟨rfl, g0, g1⟩ := smp_at ha
  exact ⟨x, b, off, hx, hA, hb, g0, g1, hc 0 _ rfl, hc 1 _ rfl⟩
theorem smp_get' {w : World} {B : Nat} {l : List Sample} {b off n c k : Nat} (h : Mm.SlAt smp w B l (some ⟨b, off, none⟩) n c) (hk : k < n) :
    ∃ x, l[k]? = some x ∧ b < B ∧ Mm.I64 x.At ∧ Mm.I64 x.Value ∧ w.cell? ⟨b, off + k * 2, none⟩ = some (.int .i64 x.At) ∧ w.cell? ⟨b, off + k * 2 + 1, none⟩ = some (.int .i64 x.Value) := by
  obtain ⟨x, cs, hx, hb, ha, hc⟩ := h.get' hk
  obtain ⟨rfl, g0, g1⟩ := smp_at ha
  exact ⟨x, hx, hb, g0, g1, hc 0 _ rfl, hc 1 _ rfl⟩
theorem rSay_get {w : World} {B : Nat} {l : List Say} {A : Option Addr} {n c k : Nat} (h : Mm.SlAt rSay w B l A n c) (hk : k < n) :
    ∃ x b off, l[k]? = some x ∧ A = some ⟨b, off, none⟩ ∧ b < B ∧ x.Name.size ≤ maxLen ∧ Mm.I64 x.At ∧ Mm.I64 x.Value ∧ w.cell? ⟨b, off + k * 3, none⟩ = some (.string x.Name) ∧ w.cell? ⟨b, off + k * 3 + 1, none⟩ = some (.int .i64 x.At) ∧ w.cell? ⟨b, off + k * 3 + 2, none⟩ = some (.int .i64 x.Value) := by
  obtain ⟨x, b, off, cs, hx, hA, hb, ha, hc⟩ := h.get hk
  obtain ⟨rfl, g0, g1, g2⟩ := rSay_at ha
  exact ⟨x, b, off, hx, hA, hb, g0, g1, g2, hc 0 _ rfl, hc 1 _ rfl, hc 2 _ rfl⟩
theorem rHouseStep_get {w : World} {B : Nat} {l : List HouseStep} {A : Option Addr} {n c k : Nat} (h : Mm.SlAt rHouseStep w B l A n c) (hk : k < n) :
    ∃ x b off, l[k]? = some x ∧ A = some ⟨b, off, none⟩ ∧ b < B ∧ Mm.I64 x.Kind ∧ Mm.I64 x.Part ∧ x.What.Name.size ≤ maxLen ∧ Mm.I64 x.What.At ∧ Mm.I64 x.What.Value ∧ w.cell? ⟨b, off + k * 5, none⟩ = some (.int .i64 x.Kind) ∧ w.cell? ⟨b, off + k * 5 + 1, none⟩ = some (.int .i64 x.Part) ∧ w.cell? ⟨b, off + k * 5 + 2, none⟩ = some (.string x.What.Name) ∧ w.cell? ⟨b, off + k * 5 + 3, none⟩ = some (.int .i64 x.What.At) ∧ w.cell? ⟨b, off + k * 5 + 4, none⟩ = some (.int .i64 x.What.Value) := by
  obtain ⟨x, b, off, cs, hx, hA, hb, ha, hc⟩ := h.get hk
  obtain ⟨rfl, g0, g1, g2, g3, g4⟩ := rHouseStep_at ha
  exact ⟨x, b, off, hx, hA, hb, g0, g1, g2, g3, g4, hc 0 _ rfl, hc 1 _ rfl, hc 2 _ rfl, hc 3 _ rfl, hc 4 _ rfl⟩
theorem rHouseStep_ocell {w : World} {e : TypeId} {xs : List HouseStep} {g n c i : Nat} {x : HouseStep} {fp : List Nat} (h : Mm.SlOwn rHouseStep e w xs (.slice (some ⟨g, 0, none⟩) n c) fp) (hnd : fp.Nodup) (hi : xs[i]? = some x) : w.cell? ⟨g, i * 5, none⟩ = some (.int .i64 x.Kind) ∧ w.cell? ⟨g, i * 5 + 1, none⟩ = some (.int .i64 x.Part) ∧ w.cell? ⟨g, i * 5 + 2, none⟩ = some (.string x.What.Name) ∧ w.cell? ⟨g, i * 5 + 3, none⟩ = some (.int .i64 x.What.At) ∧ w.cell? ⟨g, i * 5 + 4, none⟩ = some (.int .i64 x.What.Value) := by
  obtain ⟨cs, fx, hown, _, _, hc, _⟩ := h.inner hnd hi
  obtain ⟨rfl, _⟩ := rHouseStep_own hown
  exact ⟨hc 0 _ rfl, hc 1 _ rfl, hc 2 _ rfl, hc 3 _ rfl, hc 4 _ rfl⟩
theorem rRow_get {w : World} {B : Nat} {l : List Row} {A : Option Addr} {n c k : Nat} (h : Mm.SlAt rRow w B l A n c) (hk : k < n) :
    ∃ x b off A' n' c', l[k]? = some x ∧ A = some ⟨b, off, none⟩ ∧ b < B ∧ x.Name.size ≤ maxLen ∧ Mm.SlAt smp w B x.Samples A' n' c' ∧ w.cell? ⟨b, off + k * 2, none⟩ = some (.string x.Name) ∧ w.cell? ⟨b, off + k * 2 + 1, none⟩ = some (.slice A' n' c') := by
  obtain ⟨x, b, off, cs, hx, hA, hb, ha, hc⟩ := h.get hk
  obtain ⟨A', n', c', rfl, g0, g1⟩ := rRow_at ha
  exact ⟨x, b, off, A', n', c', hx, hA, hb, g0, g1, hc 0 _ rfl, hc 1 _ rfl⟩
theorem rRow_get' {w : World} {B : Nat} {l : List Row} {b off n c k : Nat} (h : Mm.SlAt rRow w B l (some ⟨b, off, none⟩) n c) (hk : k < n) :
    ∃ x A' n' c', l[k]? = some x ∧ b < B ∧ x.Name.size ≤ maxLen ∧ Mm.SlAt smp w B x.Samples A' n' c' ∧ w.cell? ⟨b, off + k * 2, none⟩ = some (.string x.Name) ∧ w.cell? ⟨b, off + k * 2 + 1, none⟩ = some (.slice A' n' c') := by
  obtain ⟨x, cs, hx, hb, ha, hc⟩ := h.get' hk
  obtain ⟨A', n', c', rfl, g0, g1⟩ := rRow_at ha
  exact ⟨x, A', n', c', hx, hb, g0, g1, hc 0 _ rfl, hc 1 _ rfl⟩
theorem rHead_get {w : World} {B : Nat} {l : List Head} {A : Option Addr} {n c k : Nat} (h : Mm.SlAt rHead w B l A n c) (hk : k < n) :
    ∃ x b off A' n' c', l[k]? = some x ∧ A = some ⟨b, off, none⟩ ∧ b < B ∧ Mm.SlAt rRow w B x.Rows A' n' c' ∧ Mm.I64 x.Offset ∧ w.cell? ⟨b, off + k * 2, none⟩ = some (.slice A' n' c') ∧ w.cell? ⟨b, off + k * 2 + 1, none⟩ = some (.int .i64 x.Offset) := by
  obtain ⟨x, b, off, cs, hx, hA, hb, ha, hc⟩ := h.get hk
  obtain ⟨A', n', c', rfl, g0, g1⟩ := rHead_at ha
  exact ⟨x, b, off, A', n', c', hx, hA, hb, g0, g1, hc 0 _ rfl, hc 1 _ rfl⟩
theorem rHead_get' {w : World} {B : Nat} {l : List Head} {b off n c k : Nat} (h : Mm.SlAt rHead w B l (some ⟨b, off, none⟩) n c) (hk : k < n) :
    ∃ x A' n' c', l[k]? = some x ∧ b < B ∧ Mm.SlAt rRow w B x.Rows A' n' c' ∧ Mm.I64 x.Offset ∧ w.cell? ⟨b, off + k * 2, none⟩ = some (.slice A' n' c') ∧ w.cell? ⟨b, off + k * 2 + 1, none⟩ = some (.int .i64 x.Offset) := by
  obtain ⟨x, cs, hx, hb, ha, hc⟩ := h.get' hk
  obtain ⟨A', n', c', rfl, g0, g1⟩ := rHead_at ha
  exact ⟨x, A', n', c', hx, hb, g0, g1, hc 0 _ rfl, hc 1 _ rfl⟩
theorem rHead_ocell {w : World} {e : TypeId} {xs : List Head} {g n c i : Nat} {x : Head} {fp : List Nat} (h : Mm.SlOwn rHead e w xs (.slice (some ⟨g, 0, none⟩) n c) fp) (hnd : fp.Nodup) (hi : xs[i]? = some x) : ∃ A' n' c', w.cell? ⟨g, i * 2, none⟩ = some (.slice A' n' c') ∧ w.cell? ⟨g, i * 2 + 1, none⟩ = some (.int .i64 x.Offset) := by
  obtain ⟨cs, fx, hown, _, _, hc, _⟩ := h.inner hnd hi
  obtain ⟨A', n', c', _, rfl, _⟩ := rHead_own hown
  exact ⟨A', n', c', hc 0 _ rfl, hc 1 _ rfl⟩
theorem rPiece_get {w : World} {B : Nat} {l : List Piece} {A : Option Addr} {n c k : Nat} (h : Mm.SlAt rPiece w B l A n c) (hk : k < n) :
    ∃ x b off A' n' c', l[k]? = some x ∧ A = some ⟨b, off, none⟩ ∧ b < B ∧ Mm.I64 x.From ∧ x.Bytes.size ≤ maxLen ∧ Mm.SlAt Mm.int w B x.Index A' n' c' ∧ w.cell? ⟨b, off + k * 3, none⟩ = some (.int .i64 x.From) ∧ w.cell? ⟨b, off + k * 3 + 1, none⟩ = some (.string x.Bytes) ∧ w.cell? ⟨b, off + k * 3 + 2, none⟩ = some (.slice A' n' c') := by
  obtain ⟨x, b, off, cs, hx, hA, hb, ha, hc⟩ := h.get hk
  obtain ⟨A', n', c', rfl, g0, g1, g2⟩ := rPiece_at ha
  exact ⟨x, b, off, A', n', c', hx, hA, hb, g0, g1, g2, hc 0 _ rfl, hc 1 _ rfl, hc 2 _ rfl⟩
theorem rPiece_ocell {w : World} {e : TypeId} {xs : List Piece} {g n c i : Nat} {x : Piece} {fp : List Nat} (h : Mm.SlOwn rPiece e w xs (.slice (some ⟨g, 0, none⟩) n c) fp) (hnd : fp.Nodup) (hi : xs[i]? = some x) : ∃ A' n' c', w.cell? ⟨g, i * 3, none⟩ = some (.int .i64 x.From) ∧ w.cell? ⟨g, i * 3 + 1, none⟩ = some (.string x.Bytes) ∧ w.cell? ⟨g, i * 3 + 2, none⟩ = some (.slice A' n' c') := by
  obtain ⟨cs, fx, hown, _, _, hc, _⟩ := h.inner hnd hi
  obtain ⟨A', n', c', _, rfl, _⟩ := rPiece_own hown
  exact ⟨A', n', c', hc 0 _ rfl, hc 1 _ rfl, hc 2 _ rfl⟩
theorem rLog_get {w : World} {B : Nat} {l : List Log} {A : Option Addr} {n c k : Nat} (h : Mm.SlAt rLog w B l A n c) (hk : k < n) :
    ∃ x b off A' n' c', l[k]? = some x ∧ A = some ⟨b, off, none⟩ ∧ b < B ∧ Mm.SlAt rPiece w B x.Pieces A' n' c' ∧ Mm.I64 x.Begin ∧ w.cell? ⟨b, off + k * 2, none⟩ = some (.slice A' n' c') ∧ w.cell? ⟨b, off + k * 2 + 1, none⟩ = some (.int .i64 x.Begin) := by
  obtain ⟨x, b, off, cs, hx, hA, hb, ha, hc⟩ := h.get hk
  obtain ⟨A', n', c', rfl, g0, g1⟩ := rLog_at ha
  exact ⟨x, b, off, A', n', c', hx, hA, hb, g0, g1, hc 0 _ rfl, hc 1 _ rfl⟩
theorem rLog_get' {w : World} {B : Nat} {l : List Log} {b off n c k : Nat} (h : Mm.SlAt rLog w B l (some ⟨b, off, none⟩) n c) (hk : k < n) :
    ∃ x A' n' c', l[k]? = some x ∧ b < B ∧ Mm.SlAt rPiece w B x.Pieces A' n' c' ∧ Mm.I64 x.Begin ∧ w.cell? ⟨b, off + k * 2, none⟩ = some (.slice A' n' c') ∧ w.cell? ⟨b, off + k * 2 + 1, none⟩ = some (.int .i64 x.Begin) := by
  obtain ⟨x, cs, hx, hb, ha, hc⟩ := h.get' hk
  obtain ⟨A', n', c', rfl, g0, g1⟩ := rLog_at ha
  exact ⟨x, A', n', c', hx, hb, g0, g1, hc 0 _ rfl, hc 1 _ rfl⟩
theorem rLog_ocell {w : World} {e : TypeId} {xs : List Log} {g n c i : Nat} {x : Log} {fp : List Nat} (h : Mm.SlOwn rLog e w xs (.slice (some ⟨g, 0, none⟩) n c) fp) (hnd : fp.Nodup) (hi : xs[i]? = some x) : ∃ A' n' c', w.cell? ⟨g, i * 2, none⟩ = some (.slice A' n' c') ∧ w.cell? ⟨g, i * 2 + 1, none⟩ = some (.int .i64 x.Begin) := by
  obtain ⟨cs, fx, hown, _, _, hc, _⟩ := h.inner hnd hi
  obtain ⟨A', n', c', _, rfl, _⟩ := rLog_own hown
  exact ⟨A', n', c', hc 0 _ rfl, hc 1 _ rfl⟩
end Go.Proofs.YtbhmdnjammnlnaaGreatDoor

namespace Go.Proofs.YtbhmdnjammnlnaaGreatDoor
open Go.RowKit
theorem Mm.Facts.varH {w0 w W : World} {fs : List Mm.Fact} {g : Nat} (h : Mm.Facts w0 w fs) (hg : w.heap.size = g) (t : TypeId) (cs : List Value) (hW : w.alloc (.cells cs.toArray t) = W) : Mm.Facts w0 W (fs ++ [Mm.fbk g t cs]) := hW ▸ h.var hg t cs
theorem Mm.Facts.selH {w0 w : World} {fs gs : List Mm.Fact} (h : Mm.Facts w0 w fs) (is : List Nat) (hu : gs = is.filterMap (fun i => fs[i]?)) : Mm.Facts w0 w gs :=
  ⟨h.bel, fun f hf => by
    rw [hu, List.mem_filterMap] at hf
    obtain ⟨i, -, hi⟩ := hf
    exact h.all f (List.mem_of_getElem? hi)⟩
theorem rHouse_rd3 {w : World} {B : Nat} {x : House} {A0 : Option Addr} {n0 c0 : Nat} {A1 : Option Addr} {n1 c1 : Nat} {A2 : Option Addr} {n2 c2 : Nat} (h : rHouse.at_ w B x [.slice A0 n0 c0, .slice A1 n1 c1, .slice A2 n2 c2]) : Mm.SlAt rLog w B x.Logs A0 n0 c0 ∧ Mm.SlAt rHead w B x.Heads A1 n1 c1 ∧ Mm.SlAt rHead w B x.Kept A2 n2 c2 := by
  obtain ⟨D0, m0, y0, D1, m1, y1, D2, m2, y2, hcs, r0, r1, r2⟩ := rHouse_at h
  simp only [List.cons.injEq, Value.slice.injEq] at hcs
  obtain ⟨⟨rfl, rfl, rfl⟩, ⟨rfl, rfl, rfl⟩, ⟨rfl, rfl, rfl⟩, -⟩ := hcs
  exact ⟨r0, r1, r2⟩
end Go.Proofs.YtbhmdnjammnlnaaGreatDoor

namespace Go.Proofs.YtbhmdnjammnlnaaGreatDoor
namespace Pl
def wbyte (d : Bool) (c : UInt8) : Bool := (decide (97 ≤ (c.toNat : Int)) && decide ((c.toNat : Int) ≤ 122)) || (d && (decide (48 ≤ (c.toNat : Int)) && decide ((c.toNat : Int) ≤ 57)))
def word (d : Bool) (l : List UInt8) : Bool := l.all (wbyte d) && (decide (1 ≤ (l.length : Int)) && decide ((l.length : Int) ≤ 8))
def isIn (n a b : Int) : Bool := decide (a ≤ n) && decide (n ≤ b)
def hash (l : List UInt8) : Int := l.foldl (fun h c => (31 * h + (c.toNat : Int)) % 1009) 7
theorem take_snoc (l : List UInt8) (k : Nat) (h : k < l.length) : l.take (k + 1) = l.take k ++ [l[k]] := by
  rw [List.take_succ_eq_append_getElem h]
theorem hash_bd (l : List UInt8) : 0 ≤ hash l ∧ hash l < 1009 := by
  unfold hash
  rw [← List.reverse_reverse l, List.foldl_reverse]
  cases l.reverse with
  | nil => simp
  | cons c t => simp only [List.foldr_cons]; omega
theorem hash_snoc (l : List UInt8) (c : UInt8) : hash (l ++ [c]) = (31 * hash l + (c.toNat : Int)) % 1009 := by
  unfold hash; rw [List.foldl_append]; rfl
theorem word_of_all (d : Bool) (l : List UInt8) (h : ∀ c ∈ l, wbyte d c = true) : word d l = isIn (l.length : Int) 1 8 := by
  unfold word isIn; rw [List.all_eq_true.2 h]; rfl
theorem word_of_bad (d : Bool) (l : List UInt8) (k : Nat) (hk : k < l.length) (h : wbyte d l[k] = false) : word d l = false := by
  unfold word
  rw [List.all_eq_false.2 ⟨l[k], List.getElem_mem hk, by rw [h]; simp⟩]; rfl
theorem word_bad {d : Bool} {s : ByteArray} {k : Nat} (hk : k < s.size) (h : wbyte d s[k] = false) : word d s.data.toList = false :=
  word_of_bad d s.data.toList k (by simpa using hk) h
theorem all_snoc {d : Bool} {l m : List UInt8} {c : UInt8} (he : m = l ++ [c]) (h : ∀ x ∈ l, wbyte d x = true) (hc : wbyte d c = true) : ∀ x ∈ m, wbyte d x = true := by
  subst he
  intro x hx
  rcases List.mem_append.1 hx with h1 | h1
  · exact h x h1
  · rw [List.mem_singleton.1 h1]; exact hc
theorem wb_no {d : Bool} {c : UInt8} (h : ¬ (97 ≤ (c.toNat : Int) ∧ (c.toNat : Int) ≤ 122)) (h2 : d = false ∨ ¬ (48 ≤ (c.toNat : Int) ∧ (c.toNat : Int) ≤ 57)) : wbyte d c = false := by
  unfold wbyte
  rcases h2 with rfl | h2
  · simp; omega
  · cases d <;> simp <;> omega
theorem wb_letter {d : Bool} {c : UInt8} (h : 97 ≤ (c.toNat : Int) ∧ (c.toNat : Int) ≤ 122) : wbyte d c = true := by
  unfold wbyte
  simp; omega
theorem wb_digit {c : UInt8} (h : 48 ≤ (c.toNat : Int) ∧ (c.toNat : Int) ≤ 57) : wbyte true c = true := by
  unfold wbyte
  simp; omega
theorem word_end {d : Bool} {l : List UInt8} {k : Nat} (hk : l.length ≤ k) (h : ∀ c ∈ l.take k, wbyte d c = true) : word d l = isIn (l.length : Int) 1 8 :=
  word_of_all d l (by rwa [List.take_of_length_le hk] at h)
theorem word_len {d : Bool} {l : List UInt8} (h : word d l = true) : 1 ≤ l.length ∧ l.length ≤ 8 := by
  unfold word at h; simp at h; omega
end Pl
end Go.Proofs.YtbhmdnjammnlnaaGreatDoor


namespace Go.Proofs.YtbhmdnjammnlnaaGreatDoor
open Go.RowKit
def Pl.ret2 (x : Int × Bool) : Ending := .returned (.tuple #[.int .i64 x.1, .bool x.2])
theorem ret_int {k : IntKind} {a b : Int} (h : a = b) : Ending.returned (.int k a) = .returned (.int k b) := by rw [h]
theorem ret_bool {a b : Bool} (h : a = b) : Ending.returned (.bool a) = .returned (.bool b) := by rw [h]
theorem within_c (n a b : Int) (w : World) :
    Calls Tryz.prog 55 #[.int .i64 n, .int .i64 a, .int .i64 b] w fun e w' => e = .returned (.bool (Pl.isIn n a b)) ∧ w = w' := by
  unfold Pl.isIn
  by_cases h1 : a ≤ n
  · by_cases h2 : n ≤ b
    · go_enter Tryz.func55, Tryz.ntmps55
      go_wp2
      go_ret
      exact ⟨ret_bool (by simp [*]), rfl⟩
    · go_enter Tryz.func55, Tryz.ntmps55
      go_wp2
      go_ret
      exact ⟨ret_bool (by simp [*]), rfl⟩
  · go_enter Tryz.func55, Tryz.ntmps55
    go_wp2
    go_ret
    exact ⟨ret_bool (by simp; omega), rfl⟩
theorem l1In_c (n a b : Int) (w : World) :
    Calls Tryz.prog 68 #[.int .i64 n, .int .i64 a, .int .i64 b] w fun e w' => e = .returned (.bool (Pl.isIn n a b)) ∧ w = w' := by
  unfold Pl.isIn
  by_cases h1 : a ≤ n
  · by_cases h2 : n ≤ b
    · go_enter Tryz.func68, Tryz.ntmps68
      go_wp2
      go_ret
      exact ⟨ret_bool (by simp [*]), rfl⟩
    · go_enter Tryz.func68, Tryz.ntmps68
      go_wp2
      go_ret
      exact ⟨ret_bool (by simp [*]), rfl⟩
  · go_enter Tryz.func68, Tryz.ntmps68
    go_wp2
    go_ret
    exact ⟨ret_bool (by simp; omega), rfl⟩
set_option maxHeartbeats 400000 in
theorem hashText_c (s : ByteArray) (w : World) (hs : s.size ≤ maxLen) :
    Calls Tryz.prog 86 #[.string s] w fun e w' => e = .returned (.int .i64 (Pl.hash s.data.toList)) ∧ w = w' := by
  unfold maxLen at hs
  go_enter Tryz.func86, Tryz.ntmps86
  go_wp2
  go_loop [3, 4, 7] (fun h _ i => ∃ k : Nat, k ≤ s.size ∧ i = .int .i64 k ∧ h = .int .i64 (Pl.hash (s.data.toList.take k))) (fun _ _ i => s.size - (intOf i).toNat)
  case atStart => exact ⟨0, Nat.zero_le _, rfl, rfl⟩
  case round =>
    obtain ⟨k, hk, rfl, rfl⟩ := hrel
    have hd := Pl.hash_bd (s.data.toList.take k)
    by_cases hlt : k < s.size
    · have hsn := Pl.hash_snoc (s.data.toList.take k) s[k]
      have hts : s.data.toList.take (k + 1) = s.data.toList.take k ++ [s[k]] := Pl.take_snoc s.data.toList k hlt
      have HS : Hid (Pl.hash (s.data.toList.take (k + 1)) = (31 * Pl.hash (s.data.toList.take k) + (s[k].toNat : Int)) % 1009) := by rw [hts]; exact hsn
      clear hsn hts
      have hb : (s[k].toNat : Int) < 256 := by have := s[k].toNat_lt; omega
      go_wp2
      go_round
      case rel => exact ⟨k + 1, by omega, by go_num, by rw [HS.out]⟩
      case measure => simp [intOf]; omega
    · go_wp2
      go_ret
      exact ⟨ret_int (by rw [List.take_of_length_le (by simp; omega)]), rfl⟩
set_option maxHeartbeats 400000 in
theorem l3Hash_c (s : ByteArray) (w : World) (hs : s.size ≤ maxLen) :
    Calls Tryz.prog 83 #[.string s] w fun e w' => e = .returned (.int .i64 (Pl.hash s.data.toList)) ∧ w = w' := by
  unfold maxLen at hs
  go_enter Tryz.func83, Tryz.ntmps83
  go_wp2
  go_loop [3, 4] (fun h i => ∃ k : Nat, k ≤ s.size ∧ i = .int .i64 k ∧ h = .int .i64 (Pl.hash (s.data.toList.take k))) (fun _ i => s.size - (intOf i).toNat)
  case atStart => exact ⟨0, Nat.zero_le _, rfl, rfl⟩
  case round =>
    obtain ⟨k, hk, rfl, rfl⟩ := hrel
    have hd := Pl.hash_bd (s.data.toList.take k)
    by_cases hlt : k < s.size
    · have hsn := Pl.hash_snoc (s.data.toList.take k) s[k]
      have hts : s.data.toList.take (k + 1) = s.data.toList.take k ++ [s[k]] := Pl.take_snoc s.data.toList k hlt
      have HS : Hid (Pl.hash (s.data.toList.take (k + 1)) = (31 * Pl.hash (s.data.toList.take k) + (s[k].toNat : Int)) % 1009) := by rw [hts]; exact hsn
      clear hsn hts
      have hb : (s[k].toNat : Int) < 256 := by have := s[k].toNat_lt; omega
      go_wp2
      go_round
      case rel => exact ⟨k + 1, by omega, by go_num, by rw [HS.out]⟩
      case measure => simp [intOf]; omega
    · go_wp2
      go_ret
      exact ⟨ret_int (by rw [List.take_of_length_le (by simp; omega)]), rfl⟩
set_option maxRecDepth 100000 in
set_option maxHeartbeats 1000000 in
theorem isWord_c (s : ByteArray) (d : Bool) (w : World) (hs : s.size ≤ maxLen) :
    Calls Tryz.prog 85 #[.string s, .bool d] w fun e w' => e = .returned (.bool (Pl.word d s.data.toList)) ∧ w = w' := by
  unfold maxLen at hs
  go_enter Tryz.func85, Tryz.ntmps85
  go_wp2
  go_loop [5, 8] (fun _ i => ∃ k : Nat, k ≤ s.size ∧ i = .int .i64 k ∧ ∀ c ∈ s.data.toList.take k, Pl.wbyte d c = true) (fun _ i => s.size - (intOf i).toNat)
  case atStart => exact ⟨0, Nat.zero_le _, rfl, by simp⟩
  case round =>
    obtain ⟨k, hk, rfl, hall⟩ := hrel
    by_cases hlt : k < s.size
    · have hts : s.data.toList.take (k + 1) = s.data.toList.take k ++ [s[k]] := Pl.take_snoc s.data.toList k hlt
      have HS : Hid (s.data.toList.take (k + 1) = s.data.toList.take k ++ [s[k]]) := hts
      have HA : Hid (∀ c ∈ s.data.toList.take k, Pl.wbyte d c = true) := hall
      clear hts hall
      have hb : (s[k].toNat : Int) < 256 := by have := s[k].toNat_lt; omega
      cases d
      all_goals go_wp2
      all_goals first
        | (go_ret; exact ⟨ret_bool (Pl.word_bad hlt (Pl.wb_no (by omega) (.inl rfl))).symm, rfl⟩)
        | (go_ret; exact ⟨ret_bool (Pl.word_bad hlt (Pl.wb_no (by omega) (.inr (by omega)))).symm, rfl⟩)
        | (go_round
           case rel => exact ⟨k + 1, by omega, by go_num, Pl.all_snoc HS.out HA.out (by first | exact Pl.wb_letter (by omega) | exact Pl.wb_digit (by omega))⟩
           case measure => simp [intOf]; omega)
    · have HA : Hid (∀ c ∈ s.data.toList.take k, Pl.wbyte d c = true) := hall
      clear hall
      go_wp2_with (go_at_call 55; refine (within_c _ _ _ _).mono ?_; rintro e w' ⟨rfl, rfl⟩)
      go_ret
      exact ⟨ret_bool (by rw [Pl.word_end (by simp; omega) HA.out]; simp), rfl⟩
set_option maxRecDepth 100000 in
set_option maxHeartbeats 1000000 in
theorem l3Name_c (s : ByteArray) (d : Bool) (w : World) (hs : s.size ≤ maxLen) :
    Calls Tryz.prog 82 #[.string s, .bool d] w fun e w' => e = .returned (.bool (Pl.word d s.data.toList)) ∧ w = w' := by
  unfold maxLen at hs
  go_enter Tryz.func82, Tryz.ntmps82
  go_wp2
  go_loop [5] (fun i => ∃ k : Nat, k ≤ s.size ∧ i = .int .i64 k ∧ ∀ c ∈ s.data.toList.take k, Pl.wbyte d c = true) (fun i => s.size - (intOf i).toNat)
  case atStart => exact ⟨0, Nat.zero_le _, rfl, by simp⟩
  case round =>
    obtain ⟨k, hk, rfl, hall⟩ := hrel
    by_cases hlt : k < s.size
    · have hts : s.data.toList.take (k + 1) = s.data.toList.take k ++ [s[k]] := Pl.take_snoc s.data.toList k hlt
      have HS : Hid (s.data.toList.take (k + 1) = s.data.toList.take k ++ [s[k]]) := hts
      have HA : Hid (∀ c ∈ s.data.toList.take k, Pl.wbyte d c = true) := hall
      clear hts hall
      have hb : (s[k].toNat : Int) < 256 := by have := s[k].toNat_lt; omega
      cases d
      all_goals go_wp2
      all_goals (try simp only [Bool.not_eq_true', Bool.not_eq_false', decide_eq_true_eq, decide_eq_false_iff_not] at *)
      all_goals first
        | (exfalso; omega)
        | (go_ret; exact ⟨ret_bool (Pl.word_bad hlt (Pl.wb_no (by omega) (.inl rfl))).symm, rfl⟩)
        | (go_ret; exact ⟨ret_bool (Pl.word_bad hlt (Pl.wb_no (by omega) (.inr (by omega)))).symm, rfl⟩)
        | (go_round
           case rel => exact ⟨k + 1, by omega, by go_num, Pl.all_snoc HS.out HA.out (by first | exact Pl.wb_letter (by omega) | exact Pl.wb_digit (by omega))⟩
           case measure => simp [intOf]; omega)
    · have HA : Hid (∀ c ∈ s.data.toList.take k, Pl.wbyte d c = true) := hall
      clear hall
      go_wp2_with (go_at_call 68; refine (l1In_c _ _ _ _).mono ?_; rintro e w' ⟨rfl, rfl⟩)
      go_ret
      exact ⟨ret_bool (by rw [Pl.word_end (by simp; omega) HA.out]; simp), rfl⟩
end Go.Proofs.YtbhmdnjammnlnaaGreatDoor

