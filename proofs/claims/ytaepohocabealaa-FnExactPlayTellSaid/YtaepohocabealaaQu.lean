/-
  A region that draws its order, walked once in the order of the text, where its calls may make memory: the class of the worlds in which nothing that was there has turned. No program in sight. No conditions.
-/
import Derived.Test.YtaepohocabealaaMm
import Derived.BigQuiet
import Derived.Deep.QuietTactic
import Derived.Deep.RegionHeld3
namespace Go.Proofs.Ytaepohocabealaa
open Go.RowKit

/-- a world in which nothing that was there in w has turned -/
structure Und (w : World) where
  X : World
  h : Below w.heap.size w X
def und (w : World) (x : Und w) : World := x.X
instance (w : World) : Nonempty (Und w) := ⟨⟨w, Below.refl _ _⟩⟩
theorem und_cell {w : World} (x : Und w) (a : Addr) (h : (w.cell? a).isSome = true) : (und w x).cell? a = w.cell? a := by
  obtain ⟨u, hu⟩ := Option.isSome_iff_exists.1 h
  exact x.h.cell (World.block_lt_of_cell? w a hu)

theorem below_some {w w' : World} (h : Below w.heap.size w w') {a : Addr} {v : Value} (hc : w.cell? a = some v) : w'.cell? a = some v :=
  (h.cell (World.block_lt_of_cell? w a hc)).trans hc
theorem below_is {w w' : World} (h : Below w.heap.size w w') {a : Addr} (hs : (w.cell? a).isSome = true) : (w'.cell? a).isSome = true := by
  obtain ⟨u, hu⟩ := Option.isSome_iff_exists.1 hs
  rw [below_some h hu]; rfl
theorem below_fz {w w' : World} (h : Below w.heap.size w w') {a : Addr} (hs : (w.cell? a).isSome = true) (hf : w.frozen? a = false) : w'.frozen? a = false := by
  obtain ⟨u, hu⟩ := Option.isSome_iff_exists.1 hs
  rw [World.frozen?_of_block (h.block _ (World.block_lt_of_cell? w a hu))]; exact hf
theorem below_step {a b c : World} (h : Below a.heap.size a b) (k : Below b.heap.size b c) : Below a.heap.size a c := h.trans (k.mono h.size)
theorem below_step' {B : Nat} {a b c : World} (h : Below B a b) (k : Below b.heap.size b c) (hB : B ≤ b.heap.size) : Below B a c := h.trans (k.mono hB)
theorem below_new {a b : World} (h : Below a.heap.size a b) (o : Obj) : Below a.heap.size a (b.alloc o) := h.alloc h.size o

section
variable {P : Program} {f : FuncId} {args : Array Value} {w : World} {v : Value}
theorem und_call (x : Und w) (h : Calls P f args (und w x) fun e w' => e = .returned v ∧ Below (und w x).heap.size (und w x) w') :
    Calls P f args (und w x) fun e w'' => e = .returned v ∧ ∃ y : Und w, w'' = und w y :=
  h.mono fun _ w' ⟨he, hb⟩ => ⟨he, ⟨w', below_step x.h hb⟩, rfl⟩
theorem und_same (x : Und w) (h : Calls P f args (und w x) fun e w' => e = .returned v ∧ und w x = w') :
    Calls P f args (und w x) fun e w'' => e = .returned v ∧ ∃ y : Und w, w'' = und w y :=
  h.mono fun _ w' ⟨he, hb⟩ => ⟨he, x, hb.symm⟩
theorem Mm.SlAt.und {α : Type} {E : Mm.Rep α} {w : World} {B : Nat} {xs : List α} {A : Option Addr} {n c : Nat} (h : Mm.SlAt E w B xs A n c) (hB : B ≤ w.heap.size) (x : Und w) : Mm.SlAt E (und w x) B xs A n c :=
  h.keep fun b hb => x.h.block b (by omega)
theorem und_size (x : Und w) : w.heap.size ≤ (und w x).heap.size := x.h.size
end

theorem wp_region_und {P : Program} {id : Nat} {Q : Exit → Act → World → Prop} {a : Act} {w : World} {l : List Oper} (hm : P.follows .mixedOrders = true) (hB : Region.lexB .any l.toArray = true)
    (h : wpQuiet P l.toArray (fun w' => ∃ x : Und w, w' = und w x) (fun a' => ∀ X, Below w.heap.size w X → Q .normal a' X) l a) : (Code.region id l.toArray true).wp P Q a w := by
  refine wp_region_quiet (C := fun w' => ∃ x : Und w, w' = und w x) hm hB ⟨⟨w.drew, (Below.refl _ _).drew⟩, rfl⟩ ?_
  have hm' : ∀ (l' : List Oper) (a : Act) (Q Q' : Act → Prop), (∀ a, Q a → Q' a) → wpQuiet P l.toArray (fun w' => ∃ x : Und w, w' = und w x) Q l' a → wpQuiet P l.toArray (fun w' => ∃ x : Und w, w' = und w x) Q' l' a := by
    intro l'
    induction l' with
    | nil => intro a Q Q' hq h; exact hq a h
    | cons o rest ih =>
      intro a Q Q' hq h
      unfold wpQuiet at h ⊢
      split
      · rename_i hw
        rw [if_pos hw] at h
        exact Oper.quiet_mono (fun a h => ih a Q Q' hq h) h
      · rename_i hw
        rw [if_neg hw] at h
        exact ih _ Q Q' hq h
  have e : l.toArray.toList = l := rfl
  rw [e]
  exact hm' l a _ _ (fun a' hq w' ⟨x, hx⟩ => by subst hx; exact hq _ x.h) h
end Go.Proofs.Ytaepohocabealaa
