/-
  From the form's own reading of an argument to the readings of Mm: for numbers, strings, structs and slices of whatever depth. No program in sight. No conditions.
-/
import Derived.Test.YtaepohocabealaaMm
import Derived.ProofKit
import Derived.OpenShut
import Derived.Deep.Slices
namespace Go.Proofs.Ytaepohocabealaa
open Go.ChangeShapes Go.WideShapes Go.RowKit Go.Deep
namespace Mm

def Opens {α : Type} (P : Program) (t : TypeId) (E : Rep α) : Prop :=
  P.cellsOf t = E.size ∧ ∀ (H : Type) (enc : TypeId × Value → H) (w : World) (base : Nat) (spare : Nat → Bool) (held : Bool) (fuel : Nat) (cs : List Value) (x : DataW H × List MemPlace),
    DataW.trod enc P w base spare held fuel t cs = some x → ∃ y, E.at_ w w.heap.size y cs

variable {P : Program} {t e : TypeId}

theorem opens_int (ht : P.underlying t = some (.int .i64)) (hc : P.cellsOf t = 1) : Opens P t int := ⟨hc, fun H enc w base spare held fuel cs x h => by
  obtain ⟨n, rfl, _, hw⟩ := DataW.trod_int ht h
  refine ⟨n, rfl, ?_⟩
  simp [Lit.wf, IntKind.min, IntKind.max, IntKind.signed, IntKind.bits] at hw
  unfold I64
  omega⟩
theorem opens_bool (ht : P.underlying t = some .bool) (hc : P.cellsOf t = 1) : Opens P t bool := ⟨hc, fun H enc w base spare held fuel cs x h => by
  obtain ⟨n, rfl, _⟩ := DataW.trod_bool ht h
  exact ⟨n, rfl, trivial⟩⟩
theorem opens_str (ht : P.underlying t = some .string) (hc : P.cellsOf t = 1) : Opens P t str := ⟨hc, fun H enc w base spare held fuel cs x h => by
  obtain ⟨n, rfl, _, hw⟩ := DataW.trod_string ht h
  exact ⟨n, rfl, hw⟩⟩
theorem opens_map {α β : Type} {E : Rep α} {F : Rep β} (h : Opens P t E) (hs : E.size = F.size) (hc : ∀ w B x cs, E.at_ w B x cs → ∃ y, F.at_ w B y cs) : Opens P t F :=
  ⟨h.1.trans hs, fun H enc w base spare held fuel cs x hx => by
    obtain ⟨y, hy⟩ := h.2 H enc w base spare held fuel cs x hx
    exact hc _ _ _ _ hy⟩
theorem opens_slice {α : Type} {E : Rep α} (ht : P.underlying t = some (.slice e)) (hc : P.cellsOf t = 1) (h0 : 0 < E.size) (hE : Opens P e E) : Opens P t (slice E e) := ⟨hc, fun H enc w base spare held fuel cs x h => by
  rcases open_slice ht h with ⟨rfl, _⟩ | ⟨a, len, cap, m, n, D, Pl, rfl, hb, hl, hm, hmm, _, hi⟩
  · exact ⟨[], none, 0, 0, rfl, SlAt.nil (Nat.zero_le _) (fun _ => rfl)⟩
  · have hle : len ≤ m := by rw [hmm]; split <;> omega
    have hex : ∀ i : Fin len, ∃ y : α, ∃ cs', E.at_ w w.heap.size y cs' ∧ cs'.length = E.size ∧ ∀ j, j < E.size → w.cell? (a.add (i.1 * E.size + j)) = cs'[j]? := by
      intro i
      obtain ⟨cs', h1, h2⟩ := hi i.1 (by have := i.2; omega)
      obtain ⟨y, hy⟩ := hE.2 H enc w base spare held n cs' _ h2
      obtain ⟨_, hln, hcell⟩ := World.cells?_some h1
      rw [hE.1] at hln hcell
      exact ⟨y, cs', hy, hln, fun j hj => by rw [← Go.Deep.add_add]; exact hcell j hj⟩
    refine ⟨List.ofFn fun i : Fin len => Classical.choose (hex i), some a, len, cap, rfl, by simp, hl, hm, (fun h => by cases h), fun i y hy => ?_⟩
    have hil : i < len := by
      have := (List.getElem?_eq_some_iff.1 hy).1
      simpa using this
    obtain ⟨cs', h1, h2, h3⟩ := Classical.choose_spec (hex ⟨i, hil⟩)
    have hey : Classical.choose (hex ⟨i, hil⟩) = y := by
      rw [List.getElem?_ofFn] at hy
      simpa [hil] using hy
    rw [hey] at h1
    obtain ⟨cs0, _, h20, h30⟩ := Classical.choose_spec (hex ⟨0, by omega⟩)
    have hc0 := h30 0 h0
    rw [List.getElem?_eq_getElem (by omega)] at hc0
    obtain ⟨b, off, spot⟩ := a
    have hsp : spot = none := by
      have := World.cell?_spot hc0
      simpa [Addr.add] using this
    subst hsp
    have hadd : ∀ k : Nat, (⟨b, off, none⟩ : Addr).add k = ⟨b, off + k, none⟩ := fun k => by unfold Addr.add; split <;> simp_all
    refine ⟨b, off, cs', rfl, ?_, h1, fun j u hu => ?_⟩
    · have := World.block_lt_of_cell? w _ hc0
      rw [hadd] at this
      exact this
    · have hj : j < cs'.length := (List.getElem?_eq_some_iff.1 hu).1
      have := h3 j (by omega)
      rw [hu, hadd] at this
      rw [Nat.add_assoc]
      exact this⟩

def OpensF {α : Type} (P : Program) (l : List Field) (off : Nat) (E : Rep α) : Prop :=
  ∀ (H : Type) (enc : TypeId × Value → H) (w : World) (base : Nat) (spare : Nat → Bool) (held : Bool) (n : Nat) (cs : List Value), cs.length = off + E.size →
    (∀ (i : Nat) (f : Field), l[i]? = some f → ∃ x, DataW.trod enc P w base spare held n f.type ((cs.drop f.offset).take (P.cellsOf f.type)) = some x) → ∃ y, E.at_ w w.heap.size y (cs.drop off)
theorem opensF_one {α : Type} {E : Rep α} {f : Field} {off : Nat} (ho : f.offset = off) (h : Opens P f.type E) : OpensF P [f] off E := fun H enc w base spare held n cs hl hf => by
  obtain ⟨x, hx⟩ := hf 0 f rfl
  obtain ⟨y, hy⟩ := h.2 H enc w base spare held n _ x hx
  rw [ho, h.1, List.take_of_length_le (by rw [List.length_drop]; omega)] at hy
  exact ⟨y, hy⟩
theorem opensF_cons {α β : Type} {E : Rep α} {F : Rep β} {f : Field} {l : List Field} {off : Nat} (ho : f.offset = off) (h : Opens P f.type E) (hr : OpensF P l (off + E.size) F) : OpensF P (f :: l) off (pair E F) :=
  fun H enc w base spare held n cs hl hf => by
    obtain ⟨x, hx⟩ := hf 0 f rfl
    obtain ⟨y, hy⟩ := h.2 H enc w base spare held n _ x hx
    rw [ho, h.1] at hy
    have hl' : cs.length = off + E.size + F.size := by rw [hl]; show off + (E.size + F.size) = _; omega
    obtain ⟨z, hz⟩ := hr H enc w base spare held n cs hl' (fun i g hg => hf (i + 1) g (by simpa using hg))
    refine ⟨(y, z), _, _, ?_, hy, hz⟩
    rw [← List.drop_drop, List.take_append_drop]
theorem opens_struct {α : Type} {E : Rep α} {fs : Array Field} (ht : P.underlying t = some (.struct fs)) (hc : P.cellsOf t = E.size) (h : OpensF P fs.toList 0 E) : Opens P t E := ⟨hc, fun H enc w base spare held fuel cs x hx => by
  obtain ⟨ys, n, _, _, hlen, hyl, hf⟩ := DataW.trod_struct ht hx
  have := h H enc w base spare held n cs (by rw [hlen, hc]; omega) (fun i f hi => by
    have hi' : i < fs.size := by
      have := (List.getElem?_eq_some_iff.1 hi).1
      simpa using this
    have h2 := hf i f (by rw [← Array.getElem?_toList]; exact hi)
    rw [List.getElem?_eq_getElem (by omega)] at h2
    exact ⟨_, h2⟩)
  simpa using this⟩

/-- a parameter that is a slice -/
theorem open_sl {H : Type} {enc : TypeId × Value → H} {w : World} {base : Nat} {spare : Nat → Bool} {held : Bool} {r : Reach} {b0 : Nat} {v : Value} {d : DataW H} {p : List MemPlace} {α : Type} {E : Rep α}
    (ho : Opens P t (slice E e)) (ht : P.underlying t = some (.slice e)) (hv : Value.okWide P w r b0 t v) (h : DataW.Trod enc P w base spare held t v d p) :
    ∃ A n c xs, v = .slice A n c ∧ SlAt E w w.heap.size xs A n c := by
  obtain ⟨A, n, c, rfl⟩ := okWide_slice ht hv
  obtain ⟨fuel, hf⟩ := h
  obtain ⟨xs, A', n', c', he, hx⟩ := ho.2 H enc w base spare held fuel _ _ hf
  simp [Value.cells] at he
  obtain ⟨rfl, rfl, rfl⟩ := he
  exact ⟨A, n, c, xs, rfl, hx⟩
/-- a parameter that is a struct -/
theorem open_st {H : Type} {enc : TypeId × Value → H} {w : World} {base : Nat} {spare : Nat → Bool} {held : Bool} {r : Reach} {b0 : Nat} {v : Value} {d : DataW H} {p : List MemPlace} {α : Type} {E : Rep α} {fs : Array Field}
    (ho : Opens P t E) (ht : P.underlying t = some (.struct fs)) (hv : Value.okWide P w r b0 t v) (h : DataW.Trod enc P w base spare held t v d p) :
    ∃ (cs : List Value) (x : α), v = .agg cs.toArray ∧ E.at_ w w.heap.size x cs := by
  obtain ⟨cs, rfl, _⟩ := okWide_struct ht hv
  obtain ⟨fuel, hf⟩ := h
  obtain ⟨x, hx⟩ := ho.2 H enc w base spare held fuel _ _ hf
  exact ⟨cs.toList, x, by simp, hx⟩
end Mm
end Go.Proofs.Ytaepohocabealaa
