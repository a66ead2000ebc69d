/-
  Owned slices: made, set at an index, appended to. No program in sight. No conditions.
-/
import Derived.Test.YtaepohocabealaaMm
import Derived.Laws.CopyOwn
namespace Go.Proofs.Ytaepohocabealaa
open Go.RowKit
namespace Mm

theorem madeCells_rep (z : Array Value) (n : Nat) (hz : 0 < z.size) : (madeCells z (n * z.size)).toList = (List.replicate n z.toList).flatten := by
  induction n with
  | zero => simp [madeCells]
  | succ n ih =>
    rw [List.replicate_succ', List.flatten_append, ← ih]
    apply List.ext_getElem?
    intro i
    have hm : ∀ N j, (madeCells z N).toList[j]? = if j < N then some z[j % z.size]! else none := by
      intro N j
      by_cases h : j < N <;> simp [madeCells, h]
    by_cases h1 : i < n * z.size
    · rw [List.getElem?_append_left (by rw [Array.length_toList, size_madeCells]; exact h1), hm, hm, if_pos h1, if_pos (by rw [Nat.add_mul]; omega)]
    · rw [List.getElem?_append_right (by rw [Array.length_toList, size_madeCells]; omega), Array.length_toList, size_madeCells, hm]
      by_cases h2 : i < (n + 1) * z.size
      · obtain ⟨d, hd⟩ : ∃ d, i = d + n * z.size := ⟨i - n * z.size, by omega⟩
        have h3 : d < z.size := by rw [Nat.add_mul] at h2; omega
        rw [if_pos h2, hd, Nat.add_mul_mod_self_right, Nat.mod_eq_of_lt h3, Nat.add_sub_cancel]
        simp [h3]
      · rw [if_neg h2]
        have h3 : ¬ i - n * z.size < z.size := by rw [Nat.add_mul] at h2; omega
        simp
        omega

section
variable {α : Type} {E : Rep α} {e : TypeId} {w w' : World} {xs : List α} {v : Value} {fp : List Nat}

theorem SlOwn.nil : SlOwn E e w [] (.slice none 0 0) [] := ⟨[], ⟨rfl, fun i x y h => by simp at h⟩, World.ownsRow_nil _ _ _ _, rfl⟩

theorem flatMap_rep {β γ : Type} (f : β → List γ) (y : β) (n : Nat) : (List.replicate n y).flatMap f = (List.replicate n (f y)).flatten := by
  rw [List.flatMap_def, List.map_replicate]

/-- make([]T, n) -/
theorem SlOwn.made {n : Nat} {z : Value} {z0 : α} (hown : w.ownsRow 0 e E.size v n (madeCells z.cells (n * E.size)).toList) (hz : E.own w z0 z.cells.toList []) (h0 : 0 < E.size) :
    SlOwn E e w (List.replicate n z0) v v.ownBlock.toList := by
  have hs : z.cells.size = E.size := by have := E.olen hz; simpa using this
  refine ⟨List.replicate n (z.cells.toList, []), ⟨by simp, fun i x y hx hy => ?_⟩, ?_, ?_⟩
  · rw [List.getElem?_replicate] at hx hy
    by_cases hi : i < n
    · rw [if_pos hi] at hx hy
      injection hx with hx; injection hy with hy
      subst hx; subst hy
      exact hz
    · rw [if_neg hi] at hx
      cases hx
  · rw [List.length_replicate, flatMap_rep, ← madeCells_rep z.cells n (by omega), hs]
    exact hown
  · rw [flatMap_rep]
    have : ∀ m : Nat, (List.replicate m ([] : List Nat)).flatten = [] := fun m => by induction m with
      | zero => rfl
      | succ m ih => rw [List.replicate_succ, List.flatten_cons, ih]; rfl
    simp [this]

/-- several cells in a row are stored -/
def setCells (w : World) (g : Nat) : Nat → List Value → World
  | _, [] => w
  | o, c :: cs => setCells (w.setCell ⟨g, o, none⟩ c) g (o + 1) cs
def setList : List Value → Nat → List Value → List Value
  | l, _, [] => l
  | l, o, c :: cs => setList (l.set o c) (o + 1) cs
theorem setList_len : ∀ (cs l : List Value) (o : Nat), (setList l o cs).length = l.length
  | [], _, _ => rfl
  | c :: cs, l, o => by unfold setList; rw [setList_len cs]; simp
theorem setList_get : ∀ (cs l : List Value) (o i : Nat), o + cs.length ≤ l.length → (setList l o cs)[i]? = if o ≤ i ∧ i < o + cs.length then cs[i - o]? else l[i]?
  | [], l, o, i, _ => by
    unfold setList
    rw [if_neg (by simp only [List.length_nil]; omega)]
  | c :: cs, l, o, i, h => by
    unfold setList
    simp only [List.length_cons] at h ⊢
    rw [setList_get cs (l.set o c) (o + 1) i (by rw [List.length_set]; omega)]
    by_cases h1 : o + 1 ≤ i ∧ i < o + 1 + cs.length
    · rw [if_pos h1, if_pos (by omega), show i - o = (i - (o + 1)) + 1 by omega, List.getElem?_cons_succ]
    · rw [if_neg h1]
      by_cases h2 : i = o
      · subst h2
        rw [if_pos (by omega), List.getElem?_set_self (by omega), Nat.sub_self]
        rfl
      · rw [if_neg (by omega), List.getElem?_set_ne (by omega)]
theorem setCells_heap (g : Nat) : ∀ (cs : List Value) (w : World) (o k : Nat), k ≠ g → (setCells w g o cs).heap[k]? = w.heap[k]?
  | [], _, _, _, _ => rfl
  | c :: cs, w, o, k, h => by unfold setCells; rw [setCells_heap g cs _ _ k h]; exact Below.heap_setCell _ _ _ _ h
theorem setCells_grown (g : Nat) : ∀ (cs : List Value) (w : World) (o : Nat), w.grownBy (setCells w g o cs) (some g)
  | [], w, _ => ⟨rfl, rfl, rfl, Nat.le_refl _, fun _ _ _ => rfl⟩
  | c :: cs, w, o => by
    unfold setCells
    have h1 := setCells_grown g cs (w.setCell ⟨g, o, none⟩ c) (o + 1)
    exact ⟨h1.os, h1.tape, h1.output, by have := h1.size; simpa [World.setCell] using this, fun k _ hk => by
      have hkg : k ≠ g := fun e => hk (by rw [e])
      rw [setCells_heap g cs _ _ k hkg]; exact Below.heap_setCell _ _ _ _ hkg⟩
theorem setCells_own {base n cap : Nat} {size : Nat} (g : Nat) : ∀ (cs : List Value) (w : World) (o : Nat) (l : List Value), w.ownsRow base e size (.slice (some ⟨g, 0, none⟩) n cap) n l →
    (setCells w g o cs).ownsRow base e size (.slice (some ⟨g, 0, none⟩) n cap) n (setList l o cs)
  | [], _, _, _, h => h
  | c :: cs, w, o, l, h => setCells_own g cs _ (o + 1) _ (h.stored o c).1

theorem setList_elems (s : Nat) : ∀ (es : List (List Value × List Nat)) (i : Nat) (cs : List Value) (fx : List Nat), (∀ y ∈ es, y.1.length = s) → cs.length = s → i < es.length →
    setList (es.flatMap (·.1)) (i * s) cs = (es.set i (cs, fx)).flatMap (·.1) := by
  intro es i cs fx hs hc hi
  have hlen : ∀ l : List (List Value × List Nat), (∀ y ∈ l, y.1.length = s) → (l.flatMap (·.1)).length = l.length * s := by
    intro l
    induction l with
    | nil => intro _; simp
    | cons z t ih =>
      intro h
      rw [List.flatMap_cons, List.length_append, ih (fun y hy => h y (by simp [hy])), h z (by simp), List.length_cons, Nat.add_mul]
      omega
  have hs' : ∀ y ∈ es.set i (cs, fx), y.1.length = s := by
    intro y hy
    rcases List.mem_or_eq_of_mem_set hy with h | rfl
    · exact hs y h
    · exact hc
  have hb : i * s + s ≤ es.length * s := by
    have := Nat.mul_le_mul_right s (show i + 1 ≤ es.length by omega)
    rw [Nat.add_mul] at this; omega
  apply List.ext_getElem?
  intro j
  rw [setList_get _ _ _ _ (by rw [hlen es hs, hc]; exact hb), hc]
  by_cases hj : j < es.length * s
  · have hs0 : 0 < s := Nat.pos_of_ne_zero (fun h => by rw [h] at hj; omega)
    have hq : j / s < es.length := (Nat.div_lt_iff_lt_mul hs0).2 hj
    have hr : j % s < s := Nat.mod_lt _ hs0
    have hjj : j = (j / s) * s + j % s := by rw [Nat.mul_comm]; exact (Nat.div_add_mod j s).symm
    by_cases hji : j / s = i
    · rw [if_pos (by rw [hji] at hjj; omega)]
      have hu := List.getElem?_eq_getElem (show j % s < cs.length by omega)
      have h1 := flatMap_get (·.1) s (es.set i (cs, fx)) hs' i (cs, fx) (j % s) _ (List.getElem?_set_self hi) hu
      rw [hji] at hjj
      rw [← hjj] at h1
      rw [h1, show j - i * s = j % s by omega, hu]
    · rw [if_neg (by
        intro h
        apply hji
        have h3 : j < (i + 1) * s := by rw [Nat.add_mul]; omega
        have h1 := (Nat.div_lt_iff_lt_mul hs0).2 h3
        have h2 := (Nat.le_div_iff_mul_le hs0).2 h.1
        omega)]
      have hy := List.getElem?_eq_getElem hq
      have hyl := hs _ (List.getElem_mem hq)
      have hu := List.getElem?_eq_getElem (show j % s < es[j / s].1.length by omega)
      have h1 := flatMap_get (·.1) s es hs (j / s) _ (j % s) _ hy hu
      have h2 := flatMap_get (·.1) s (es.set i (cs, fx)) hs' (j / s) _ (j % s) _ (by rw [List.getElem?_set_ne (Ne.symm hji)]; exact hy) hu
      rw [← hjj] at h1 h2
      rw [h1, h2]
  · rw [if_neg (by omega), List.getElem?_eq_none (by rw [hlen es hs]; omega), List.getElem?_eq_none (by rw [hlen _ hs', List.length_set]; omega)]

/-- out[i] = x, x's own blocks new -/
theorem SlOwn.set {g n c : Nat} (h : SlOwn E e w xs (.slice (some ⟨g, 0, none⟩) n c) fp) {i : Nat} (hi : i < xs.length) {x : α} {cs : List Value} {fx : List Nat} (hx : E.own w x cs fx)
    (hnd : fp.Nodup) (hxd : fx.Nodup) (hdis : ∀ b, b ∈ fx → b ∉ fp) :
    ∃ fp', SlOwn E e (setCells w g (i * E.size) cs) (xs.set i x) (.slice (some ⟨g, 0, none⟩) n c) fp' ∧ fp'.Nodup ∧ ∀ b, b ∈ fp' → b ∈ fp ∨ b ∈ fx := by
  obtain ⟨es, he, ho, rfl⟩ := h
  have hn : n = xs.length := by
    rcases ho.2 with ⟨h, _⟩ | ⟨g', cap, cur, h, _⟩
    · cases h
    · injection h
  subst hn
  have hie : i < es.length := by rw [he.1]; exact hi
  have hgx : g ∉ fx := fun hg => hdis g hg (by simp [Value.ownBlock])
  have hgn : ∀ y ∈ es, g ∉ y.2 := fun y hy hg => by
    simp only [Value.ownBlock, Option.toList_some, List.singleton_append, List.nodup_cons] at hnd
    exact hnd.1 (List.mem_flatMap.2 ⟨y, hy, hg⟩)
  have hsub : ∀ b, b ∈ (es.set i (cs, fx)).flatMap (·.2) → b ∈ es.flatMap (·.2) ∨ b ∈ fx := by
    intro b hb
    obtain ⟨y, hy, hb⟩ := List.mem_flatMap.1 hb
    rcases List.mem_or_eq_of_mem_set hy with h | rfl
    · exact .inl (List.mem_flatMap.2 ⟨y, h, hb⟩)
    · exact .inr hb
  refine ⟨_, ⟨es.set i (cs, fx), ⟨by rw [List.length_set, List.length_set, he.1], fun k y z hy hz => ?_⟩, ?_, rfl⟩, ?_, ?_⟩
  · by_cases hk : i = k
    · subst hk
      rw [List.getElem?_set_self hie] at hz
      rw [List.getElem?_set_self hi] at hy
      injection hy with hy; injection hz with hz
      subst hy; subst hz
      exact E.okeep hx fun b hb => setCells_heap g _ _ _ _ (fun e => hgx (e ▸ hb))
    · rw [List.getElem?_set_ne hk] at hz hy
      exact E.okeep (he.2 k y z hy hz) fun b hb => setCells_heap g _ _ _ _ (fun e => hgn z (List.mem_of_getElem? hz) (e ▸ hb))
  · rw [List.length_set, ← setList_elems E.size es i cs fx he.len (E.olen hx) hie]
    exact setCells_own g cs w _ _ ho
  · simp only [Value.ownBlock, Option.toList_some, List.singleton_append, List.nodup_cons] at hnd ⊢
    refine ⟨fun hg => (hsub g hg).elim hnd.1 hgx, ?_⟩
    have hd := hnd.2
    have e1 : es = es.take i ++ es[i] :: es.drop (i + 1) := by rw [← List.drop_eq_getElem_cons hie, List.take_append_drop]
    have e2 : es.set i (cs, fx) = es.take i ++ (cs, fx) :: es.drop (i + 1) := List.set_eq_take_append_cons_drop.trans (by rw [if_pos hie])
    rw [e1] at hd
    rw [e2]
    simp only [List.flatMap_append, List.flatMap_cons] at hd ⊢
    simp only [List.nodup_append] at hd ⊢
    have dis : ∀ b, b ∈ fx → b ∉ es.flatMap (·.2) := fun b hb hm => hdis b hb (List.mem_append_right _ hm)
    have m1 : ∀ b, b ∈ (es.take i).flatMap (·.2) → b ∈ es.flatMap (·.2) := fun b hb => by
      obtain ⟨y, hy, hb⟩ := List.mem_flatMap.1 hb
      exact List.mem_flatMap.2 ⟨y, List.mem_of_mem_take hy, hb⟩
    have m2 : ∀ b, b ∈ (es.drop (i + 1)).flatMap (·.2) → b ∈ es.flatMap (·.2) := fun b hb => by
      obtain ⟨y, hy, hb⟩ := List.mem_flatMap.1 hb
      exact List.mem_flatMap.2 ⟨y, List.mem_of_mem_drop hy, hb⟩
    refine ⟨hd.1, ⟨hxd, hd.2.1.2.1, fun a ha b hb hab => ?_⟩, fun a ha b hb hab => ?_⟩
    · subst hab; exact dis a ha (m2 a hb)
    · subst hab
      rcases List.mem_append.1 hb with hb | hb
      · exact dis a hb (m1 a ha)
      · exact hd.2.2 a ha a (List.mem_append_right _ hb) rfl
  · intro b hb
    rcases List.mem_append.1 hb with hb | hb
    · exact .inl (List.mem_append_left _ hb)
    · rcases hsub b hb with h | h
      · exact .inl (List.mem_append_right _ h)
      · exact .inr h

theorem SlOwn.frozen {g n c : Nat} (h : SlOwn E e w xs (.slice (some ⟨g, 0, none⟩) n c) fp) (j : Nat) : w.frozen? ⟨g, j, none⟩ = false := by
  obtain ⟨es, he, ho, _⟩ := h
  have hn : n = xs.length := by
    rcases ho.2 with ⟨h, _⟩ | ⟨g', cap, cur, h, _⟩
    · cases h
    · injection h
  subst hn
  exact ho.frozenAt j
theorem SlOwn.mem_block {g n c : Nat} (h : SlOwn E e w xs (.slice (some ⟨g, 0, none⟩) n c) fp) : g ∈ fp := by
  obtain ⟨es, he, ho, rfl⟩ := h
  simp [Value.ownBlock]
/-- append(out, x): what the law on append asks, and what its answer is worth -/
theorem SlOwn.push (h : SlOwn E e w xs v fp) {x : α} {cs : List Value} {fx : List Nat} (hx : E.own w x cs fx) (hnd : fp.Nodup) (hxd : fx.Nodup) (hdis : ∀ b, b ∈ fx → b ∉ fp) :
    ∃ l, w.ownsRow 0 e E.size v xs.length l ∧ ∀ v' w', w'.ownsRow 0 e E.size v' (xs.length + 1) (l ++ cs) → w.grownBy w' v.ownBlock → (v'.ownBlock = v.ownBlock ∨ v'.ownBlock = some w.heap.size) →
      ∃ fp', SlOwn E e w' (xs ++ [x]) v' fp' ∧ fp'.Nodup ∧ ∀ b, b ∈ fp' → b ∈ fp ∨ b ∈ fx ∨ b = w.heap.size := by
  have hlt := h.olt
  have hxlt := E.olt hx
  obtain ⟨es, he, ho, rfl⟩ := h
  refine ⟨_, ho, fun v' w' ho' hg hat => ?_⟩
  have hkeep : ∀ b, b ∈ es.flatMap (·.2) → w'.heap[b]? = w.heap[b]? := fun b hb => hg.block b (hlt b (List.mem_append_right _ hb)) (fun hv => by
    rw [List.nodup_append] at hnd
    exact hnd.2.2 b (by rw [← hv]; simp) b hb rfl)
  have hkx : ∀ b, b ∈ fx → w'.heap[b]? = w.heap[b]? := fun b hb => hg.block b (hxlt b hb) (fun hv => hdis b hb (List.mem_append_left _ (by rw [← hv]; simp)))
  refine ⟨_, ⟨es ++ [(cs, fx)], ⟨by simp [he.1], fun i y z hy hz => ?_⟩, ?_, rfl⟩, ?_, ?_⟩
  · by_cases hi : i < xs.length
    · rw [List.getElem?_append_left hi] at hy
      rw [List.getElem?_append_left (by rw [he.1]; exact hi)] at hz
      exact E.okeep (he.2 i y z hy hz) fun b hb => hkeep b (List.mem_flatMap.2 ⟨z, List.mem_of_getElem? hz, hb⟩)
    · rw [List.getElem?_append_right (by omega)] at hy
      rw [List.getElem?_append_right (by rw [he.1]; omega), he.1] at hz
      obtain rfl : i = xs.length := by
        have := (List.getElem?_eq_some_iff.1 hy).1
        simp at this; omega
      simp at hy hz
      subst hy; subst hz
      exact E.okeep hx hkx
  · simpa [List.flatMap_append] using ho'
  · have hvn : ∀ b, b ∈ v'.ownBlock.toList → b ∉ es.flatMap (·.2) ∧ b ∉ fx := fun b hb => by
      rcases hat with hat | hat
      · rw [hat] at hb
        rw [List.nodup_append] at hnd
        exact ⟨fun hm => hnd.2.2 b hb b hm rfl, fun hm => hdis b hm (List.mem_append_left _ hb)⟩
      · rw [hat] at hb
        simp at hb
        subst hb
        exact ⟨fun hm => by have := hlt _ (List.mem_append_right _ hm); omega, fun hm => by have := hxlt _ hm; omega⟩
    have h1 : v'.ownBlock.toList.Nodup := by cases v'.ownBlock <;> simp
    rw [List.nodup_append] at hnd ⊢
    refine ⟨h1, ?_, fun a ha b hb hab => ?_⟩
    · rw [List.flatMap_append, List.nodup_append]
      exact ⟨hnd.2.1, by simpa using hxd, fun a ha b hb hab => by
        subst hab
        simp at hb
        exact hdis a hb (List.mem_append_right _ ha)⟩
    · subst hab
      rw [List.flatMap_append] at hb
      rcases List.mem_append.1 hb with hb | hb
      · exact (hvn a ha).1 hb
      · simp at hb; exact (hvn a ha).2 hb
  · intro b hb
    rcases List.mem_append.1 hb with hb | hb
    · rcases hat with hat | hat
      · rw [hat] at hb
        exact .inl (List.mem_append_left _ hb)
      · rw [hat] at hb
        simp at hb
        exact .inr (.inr hb)
    · rw [List.flatMap_append] at hb
      rcases List.mem_append.1 hb with hb | hb
      · exact .inl (List.mem_append_right _ hb)
      · simp at hb; exact .inr (.inl hb)
end
/-- l's first k, the rest zero -/
theorem takeRep_set {α : Type} {l : List α} {n k : Nat} {x z : α} (hn : l.length = n) (hk : k < n) (hx : l[k]? = some x) :
    (l.take k ++ List.replicate (n - k) z).set k x = l.take (k + 1) ++ List.replicate (n - (k + 1)) z := by
  have hl : (l.take k).length = k := by rw [List.length_take]; omega
  have hkl : k < l.length := by omega
  rw [List.set_append, if_neg (by omega), hl, Nat.sub_self, show n - k = (n - (k + 1)) + 1 by omega, List.replicate_succ, List.set_cons_zero, List.take_succ_eq_append_getElem hkl, List.append_assoc]
  rw [List.getElem?_eq_getElem hkl] at hx
  injection hx with hx
  rw [hx]
  rfl
theorem takeRep_end {α : Type} {l : List α} {n k : Nat} {z : α} (hn : l.length = n) (hk : n ≤ k) : l.take k ++ List.replicate (n - k) z = l := by
  rw [List.take_of_length_le (by omega), show n - k = 0 by omega]; simp
theorem takeRep_len {α : Type} {l : List α} {n k : Nat} {z : α} (hn : l.length = n) (hk : k ≤ n) : (l.take k ++ List.replicate (n - k) z).length = n := by
  rw [List.length_append, List.length_take, List.length_replicate]; omega
/-- a call hands back a new slice that reads as l -/
def NewSl {α : Type} (E : Rep α) (t : TypeId) (w : World) (l : List α) (e : Ending) (w' : World) : Prop :=
  ∃ A n c fp, e = .returned (.slice A n c) ∧ SlOwn E t w' l (.slice A n c) fp ∧ fp.Nodup ∧ (∀ b, b ∈ fp → w.heap.size ≤ b) ∧ Below w.heap.size w w'
/-- in the middle of 'out := make([]T, n); for i := .. { out[i] = .. }': k are filled -/
def Filled {α : Type} (E : Rep α) (t : TypeId) (w : World) (l : List α) (z : α) (n k : Nat) (wr : World) : Prop :=
  Below w.heap.size w wr ∧ l.length = n ∧ ∃ fp, SlOwn E t wr (l.take k ++ List.replicate (n - k) z) (.slice (some ⟨w.heap.size, 0, none⟩) n n) fp ∧ fp.Nodup ∧ ∀ b, b ∈ fp → w.heap.size ≤ b
section
variable {α : Type} {E : Rep α} {t : TypeId} {w wr w1 : World} {l : List α} {z : α} {n k : Nat}
theorem Filled.start {zv : Value} (hl : l.length = n) (hown : w1.ownsRow 0 t E.size (.slice (some ⟨w.heap.size, 0, none⟩) n n) n (madeCells zv.cells (n * E.size)).toList) (hg : w.grownBy w1 none) (hz : E.own w1 z zv.cells.toList []) (h0 : 0 < E.size) : Filled E t w l z n 0 w1 := by
  refine ⟨(Below.refl _ _).grown hg (Nat.le_refl _) (fun k h => by cases h), hl, [w.heap.size], ?_, ?_, ?_⟩
  · have := SlOwn.made hown hz h0
    simpa [Value.ownBlock] using this
  · simp
  · simp
theorem Filled.below (h : Filled E t w l z n k wr) : Below w.heap.size w wr := h.1
theorem Filled.lt (h : Filled E t w l z n k wr) : w.heap.size < wr.heap.size := by
  obtain ⟨_, _, fp, hs, _⟩ := h
  exact hs.olt _ hs.mem_block
theorem Filled.keep (h : Filled E t w l z n k wr) (hb : Below wr.heap.size wr w1) : Filled E t w l z n k w1 := by
  obtain ⟨h1, h2, fp, hs, hr⟩ := h
  exact ⟨h1.trans (hb.mono h1.size), h2, fp, hs.okeep fun b hb' => hb.block b (hs.olt b hb'), hr⟩
/-- the cells that are about to be stored into -/
theorem Filled.cell (h : Filled E t w l z n k wr) (hk : k < n) {j : Nat} (hj : j < E.size) : ∃ u, wr.cell? ⟨w.heap.size, k * E.size + j, none⟩ = some u := by
  obtain ⟨h1, h2, fp, hs, _⟩ := h
  have hw := hs.weak (B := wr.heap.size) (fun b hb => hs.olt b hb)
  obtain ⟨x, cs, _, _, ha, hc⟩ := hw.get' hk
  have hl := E.len ha
  have := hc j _ (List.getElem?_eq_getElem (by omega))
  rw [Nat.zero_add] at this
  exact ⟨_, this⟩
theorem Filled.frozen (h : Filled E t w l z n k wr) (j : Nat) : wr.frozen? ⟨w.heap.size, j, none⟩ = false := by
  obtain ⟨h1, h2, fp, hs, _⟩ := h
  exact hs.frozen j
theorem Filled.step (h : Filled E t w l z n k wr) (hk : k < n) {x : α} {cs : List Value} {fx : List Nat} (hlx : l[k]? = some x) (hb : Below wr.heap.size wr w1) (hx : E.own w1 x cs fx) (hxd : fx.Nodup) (hxf : ∀ b, b ∈ fx → wr.heap.size ≤ b) :
    Filled E t w l z n (k + 1) (setCells w1 w.heap.size (k * E.size) cs) := by
  have hlt := h.lt
  obtain ⟨h1, h2, fp, hs, hnd, hfr⟩ := h
  have hs1 := hs.okeep (w' := w1) fun b hb' => hb.block b (hs.olt b hb')
  have hln := takeRep_len (z := z) h2 (Nat.le_of_lt hk)
  obtain ⟨fp', hs', hnd', hsub⟩ := hs1.set (i := k) (by rw [hln]; exact hk) hx hnd hxd (fun b hb hm => by have := hxf b hb; have := hs.olt b hm; omega)
  rw [takeRep_set h2 hk hlx] at hs'
  refine ⟨?_, h2, fp', hs', hnd', fun b hb => ?_⟩
  · exact (h1.trans (hb.mono h1.size)).grown (setCells_grown _ _ _ _) (Nat.le_trans h1.size hb.size) (fun k hk => by injection hk with hk; omega)
  · rcases hsub b hb with h | h
    · exact hfr b h
    · have := hxf b h; omega
theorem Filled.done (h : Filled E t w l z n k wr) (hk : n ≤ k) : NewSl E t w l (.returned (.slice (some ⟨w.heap.size, 0, none⟩) n n)) wr := by
  obtain ⟨h1, h2, fp, hs, hnd, hfr⟩ := h
  rw [takeRep_end h2 hk] at hs
  exact ⟨_, _, _, fp, rfl, hs, hnd, hfr, h1⟩
end
end Mm
end Go.Proofs.Ytaepohocabealaa
