/-
  A block that is known whole: a local struct, a variable that a closure holds. No program in sight. No conditions.
-/
import Derived.Test.YtaepohocabealaaOw
import Derived.Test.YtaepohocabealaaQu
namespace Go.Proofs.Ytaepohocabealaa
open Go.RowKit
namespace Mm
/-- block g holds just the cells cs, of element type t, none of them frozen -/
def Blk (w : World) (g : Nat) (t : TypeId) (cs : List Value) : Prop := w.heap[g]? = some (.cells cs.toArray t (0, 0))
section
variable {w w' : World} {g : Nat} {t : TypeId} {cs : List Value}
theorem Blk.lt (h : Blk w g t cs) : g < w.heap.size := by
  rcases Nat.lt_or_ge g w.heap.size with hlt | hge
  · exact hlt
  · unfold Blk at h; rw [Array.getElem?_eq_none hge] at h; cases h
theorem Blk.cell (h : Blk w g t cs) {i : Nat} {u : Value} (hu : cs[i]? = some u) : w.cell? ⟨g, i, none⟩ = some u := by
  rw [cell_of_row w g i _ t (0, 0) h]; simpa using hu
theorem Blk.frozen (h : Blk w g t cs) (i : Nat) : w.frozen? ⟨g, i, none⟩ = false := frozen_of_row w g i _ t h
theorem Blk.new (w : World) (t : TypeId) (cs : List Value) : Blk (w.alloc (.cells cs.toArray t)) w.heap.size t cs := heap_alloc_new w _
theorem sz1 (w : World) (o : Obj) : (w.alloc o).heap.size = w.heap.size + 1 := by simp
theorem sz2 (w : World) (o p : Obj) : ((w.alloc o).alloc p).heap.size = w.heap.size + 2 := by simp
theorem heap_new (w : World) {g : Nat} (h : w.heap.size = g) (o : Obj) : (w.alloc o).heap[g]? = some o := by subst h; exact heap_alloc_new w o
theorem Blk.new' (w : World) (t : TypeId) (cs : List Value) {g : Nat} (h : w.heap.size = g) : Blk (w.alloc (.cells cs.toArray t)) g t cs := heap_new w h _
theorem Blk.keep (h : Blk w g t cs) (k : w'.heap[g]? = w.heap[g]?) : Blk w' g t cs := k.trans h
theorem Blk.alloc (h : Blk w g t cs) (o : Obj) : Blk (w.alloc o) g t cs := h.keep (Below.heap_alloc w o g h.lt)
theorem Blk.below {B : Nat} (h : Blk w g t cs) (hb : Below B w w') (hg : g < B) : Blk w' g t cs := h.keep (hb.block g hg)
theorem Blk.bel (h : Blk w g t cs) (hb : Below w.heap.size w w') : Blk w' g t cs := h.keep (hb.block g h.lt)
theorem Blk.set_ (h : Blk w g t cs) (i : Nat) (u : Value) : Blk (w.setCell ⟨g, i, none⟩ u) g t (cs.set i u) := by
  unfold Blk at h ⊢
  have := heap_setCell_same w g i _ t u h
  rw [this]; simp
theorem Blk.far (h : Blk w g t cs) {p : Addr} (hp : g ≠ p.block) (u : Value) : Blk (w.setCell p u) g t cs := h.keep (Below.heap_setCell w p u g hp)
theorem Blk.grown {row : Option Nat} (h : Blk w g t cs) (hb : w.grownBy w' row) (hg : some g ≠ row) : Blk w' g t cs := h.keep (hb.block g h.lt hg)
end
/-- only the blocks of fp, and what is new, have turned -/
structure Chg (fp : List Nat) (w w' : World) : Prop where
  os : w'.os = w.os
  tape : w'.tape = w.tape
  output : w'.output = w.output
  size : w.heap.size ≤ w'.heap.size
  block : ∀ k, k < w.heap.size → k ∉ fp → w'.heap[k]? = w.heap[k]?
section
variable {fp : List Nat} {a b c : World} {B : Nat}
theorem Chg.refl (fp : List Nat) (w : World) : Chg fp w w := ⟨rfl, rfl, rfl, Nat.le_refl _, fun _ _ _ => rfl⟩
theorem Chg.trans (h : Chg fp a b) (k : Chg fp b c) : Chg fp a c := ⟨k.os.trans h.os, k.tape.trans h.tape, k.output.trans h.output, Nat.le_trans h.size k.size, fun i hi hn => (k.block i (Nat.lt_of_lt_of_le hi h.size) hn).trans (h.block i hi hn)⟩
theorem Chg.of_below (h : Below a.heap.size a b) : Chg fp a b := ⟨h.os, h.tape, h.output, h.size, fun i hi _ => h.block i hi⟩
theorem Chg.more {fp' : List Nat} (h : Chg fp a b) (k : ∀ x, x ∈ fp → x ∈ fp') : Chg fp' a b := ⟨h.os, h.tape, h.output, h.size, fun i hi hn => h.block i hi (fun hx => hn (k i hx))⟩
theorem Chg.setCell (h : Chg fp a b) {p : Addr} (hp : p.block ∈ fp) (u : Value) : Chg fp a (b.setCell p u) :=
  h.trans ⟨rfl, rfl, rfl, by simp [World.setCell], fun i _ hn => Below.heap_setCell _ _ _ _ (fun e => hn (e ▸ hp))⟩
/-- what was changed was new: below B nothing has turned -/
theorem Below.chg (h : Below B a b) (k : Chg fp b c) (hB : B ≤ b.heap.size) (hf : ∀ x, x ∈ fp → B ≤ x) : Below B a c :=
  h.trans ⟨k.os, k.tape, k.output, k.size, fun i hi => k.block i (by omega) (fun hx => by have := hf i hx; omega)⟩
end
/-- a block that is known whole is an owned slice of what leads nowhere -/
theorem SlOwn.of_blk {α : Type} {E : Rep α} {e : TypeId} {w : World} {g : Nat} {xs : List α} {n : Nat} (enc : α → List Value) (h : Blk w g e (xs.flatMap enc)) (hE : ∀ x, x ∈ xs → E.own w x (enc x) []) (hl : xs.length = n) (hn : n ≤ maxLen) :
    SlOwn E e w xs (.slice (some ⟨g, 0, none⟩) n n) [g] := by
  subst hl
  have h1 : ∀ l : List α, (l.map fun x => (enc x, ([] : List Nat))).flatMap (·.1) = l.flatMap enc := fun l => by simp [List.flatMap_map]
  have h2 : ∀ l : List α, (l.map fun x => (enc x, ([] : List Nat))).flatMap (·.2) = [] := fun l => by simp [List.flatMap_map]
  have h3 : ∀ l : List α, (∀ x, x ∈ l → E.own w x (enc x) []) → (l.flatMap enc).length = l.length * E.size := fun l => by
    induction l with
    | nil => intro _; simp
    | cons a t ih =>
      intro hh
      rw [List.flatMap_cons, List.length_append, ih (fun x hx => hh x (by simp [hx])), E.olen (hh a (by simp)), List.length_cons, Nat.add_mul]; omega
  refine ⟨xs.map fun x => (enc x, []), ⟨by simp, fun i x y hx hy => ?_⟩, ?_, by rw [h2]; simp [Value.ownBlock]⟩
  · rw [List.getElem?_map, hx] at hy
    simp at hy
    subst hy
    exact hE x (List.mem_of_getElem? hx)
  · rw [h1]
    refine ⟨h3 xs hE, .inr ⟨g, xs.length, _, rfl, Nat.zero_le _, h, Nat.le_refl _, hn, by simpa using h3 xs hE, ?_⟩⟩
    rw [List.take_of_length_le (by simp [h3 xs hE])]
/-- 'p.F = append(p.F, x)', p's block known whole: what the law on append asks; what its answer and the store are worth -/
theorem field_push {α : Type} {E : Rep α} {e : TypeId} {wr W2 : World} {gs i : Nat} {t : TypeId} {cs : List Value} {xs : List α} {v : Value} {fp : List Nat} {x : α} {cx : List Value} {fx : List Nat}
    (hblk : Blk wr gs t cs) (hown : SlOwn E e wr xs v fp) (hnd : fp.Nodup) (hgs : gs ∉ fp) (hb2 : Below wr.heap.size wr W2) (hx : E.own W2 x cx fx) (hxd : fx.Nodup) (hxf : ∀ b, b ∈ fx → wr.heap.size ≤ b) :
    ∃ l, W2.ownsRow 0 e E.size v xs.length l ∧ ∀ gg cap w1, w1.ownsRow 0 e E.size (.slice (some ⟨gg, 0, none⟩) (xs.length + 1) cap) (xs.length + 1) (l ++ cx) → W2.grownBy w1 v.ownBlock → (v.ownBlock = some gg ∨ gg = W2.heap.size) →
      Blk w1 gs t cs ∧ ∃ fp', Blk (w1.setCell ⟨gs, i, none⟩ (.slice (some ⟨gg, 0, none⟩) (xs.length + 1) cap)) gs t (cs.set i (.slice (some ⟨gg, 0, none⟩) (xs.length + 1) cap)) ∧
        SlOwn E e (w1.setCell ⟨gs, i, none⟩ (.slice (some ⟨gg, 0, none⟩) (xs.length + 1) cap)) (xs ++ [x]) (.slice (some ⟨gg, 0, none⟩) (xs.length + 1) cap) fp' ∧ fp'.Nodup ∧ (∀ b, b ∈ fp' → b ∈ fp ∨ wr.heap.size ≤ b) ∧
        (∀ (B : Nat) (w : World), Below B w wr → B ≤ wr.heap.size → B ≤ gs → (∀ b, b ∈ fp → B ≤ b) → Below B w (w1.setCell ⟨gs, i, none⟩ (.slice (some ⟨gg, 0, none⟩) (xs.length + 1) cap))) ∧
        (∀ b, b < wr.heap.size → b ≠ gs → b ∉ fp → (w1.setCell ⟨gs, i, none⟩ (.slice (some ⟨gg, 0, none⟩) (xs.length + 1) cap)).heap[b]? = wr.heap[b]?) := by
  have hown2 := hown.okeep (w' := W2) fun b hb => hb2.block b (hown.olt b hb)
  obtain ⟨l, ho2, hnext⟩ := hown2.push hx hnd hxd (fun b hb hm => by have := hxf b hb; have := hown.olt b hm; omega)
  refine ⟨l, ho2, fun gg cap w1 h1 h2 h3 => ?_⟩
  obtain ⟨fp', h4, h5, h6⟩ := hnext _ w1 h1 h2 (h3.elim (fun h => .inl h.symm) (fun h => .inr (by rw [h]; rfl)))
  have hfg : some gs ≠ v.ownBlock := fun h => hgs (by
    obtain ⟨es, _, _, rfl⟩ := hown
    exact List.mem_append_left _ (by rw [← h]; simp))
  have hb1 : Blk w1 gs t cs := (hblk.bel hb2).grown h2 hfg
  have hsub : ∀ b, b ∈ fp' → b ∈ fp ∨ wr.heap.size ≤ b := fun b hb => by
    rcases h6 b hb with h | h | h
    · exact .inl h
    · exact .inr (hxf b h)
    · exact .inr (by have := hb2.size; omega)
  refine ⟨hb1, fp', hb1.set_ _ _, h4.okeep fun b hb => ?_, h5, hsub, fun B w hw hB hg hf => ?_, fun b hb hg hn => ?_⟩
  · refine Below.heap_setCell _ _ _ _ ?_
    intro e'
    have e2 : b = gs := e'
    rw [e2] at hb
    rcases hsub gs hb with h | h
    · exact hgs h
    · have := hblk.lt; omega
  · have hlt := hblk.lt
    refine ((hw.trans (hb2.mono hB)).grown h2 (by have := hb2.size; omega) (fun k hk => ?_)).setCell (by show B ≤ gs; exact hg) _
    have hk' : k ∈ fp := by
      obtain ⟨es, _, _, rfl⟩ := hown
      exact List.mem_append_left _ (by rw [hk]; simp)
    exact hf k hk'
  · refine (Below.heap_setCell _ _ _ _ hg).trans ((h2.block b (by have := hb2.size; omega) (fun hk => hn ?_)).trans (hb2.block b hb))
    obtain ⟨es, _, _, rfl⟩ := hown
    exact List.mem_append_left _ (by rw [← hk]; simp)
/-- a call hands back a new thing, beside a bool -/
def Ret2 {α : Type} (R : Rep α) (w : World) (x : α) (b : Bool) (e : Ending) (w' : World) : Prop :=
  ∃ cs fp, e = .returned (.tuple #[.agg cs.toArray, .bool b]) ∧ R.own w' x cs fp ∧ fp.Nodup ∧ (∀ k, k ∈ fp → w.heap.size ≤ k) ∧ Below w.heap.size w w'
/-- a call hands back a new struct -/
def NewAg {α : Type} (R : Rep α) (w : World) (x : α) (e : Ending) (w' : World) : Prop :=
  ∃ cs fp, e = .returned (.agg cs.toArray) ∧ R.own w' x cs fp ∧ fp.Nodup ∧ (∀ k, k ∈ fp → w.heap.size ≤ k) ∧ Below w.heap.size w w'
/-- a call hands back a new slice, beside a bool -/
def RetS2 {α : Type} (E : Rep α) (t : TypeId) (w : World) (l : List α) (b : Bool) (e : Ending) (w' : World) : Prop :=
  ∃ A n c fp, e = .returned (.tuple #[.slice A n c, .bool b]) ∧ SlOwn E t w' l (.slice A n c) fp ∧ fp.Nodup ∧ (∀ k, k ∈ fp → w.heap.size ≤ k) ∧ Below w.heap.size w w'
end Mm
end Go.Proofs.Ytaepohocabealaa
