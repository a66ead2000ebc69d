/-
  An owned slice whose element k is itself owned: the element is replaced by one that leads elsewhere; an element that is a slice grows by append. No program in sight. No conditions.
-/
import Derived.Test.YtaepohocabealaaSx
import Derived.Test.YtaepohocabealaaOx
namespace Go.Proofs.Ytaepohocabealaa
open Go.RowKit
namespace Mm
section
variable {α : Type} {E : Rep α} {e : TypeId} {w : World} {xs : List α} {fp : List Nat}
theorem SlOwn.repl {g n c : Nat} (h : SlOwn E e w xs (.slice (some ⟨g, 0, none⟩) n c) fp) (hnd : fp.Nodup) (hE : E.size = 1) {i : Nat} {x : α} (hi : xs[i]? = some x) :
    ∃ cs fx, E.own w x cs fx ∧ fx.Nodup ∧ (∀ b, b ∈ fx → b ∈ fp ∧ b ≠ g) ∧ (∀ j u, cs[j]? = some u → w.cell? ⟨g, i + j, none⟩ = some u) ∧
      ∀ W x' u' fx', Chg fx w W → E.own (W.setCell ⟨g, i, none⟩ u') x' [u'] fx' → fx'.Nodup → (∀ b, b ∈ fx' → b ∈ fx ∨ w.heap.size ≤ b) →
        ∃ fp', SlOwn E e (W.setCell ⟨g, i, none⟩ u') (xs.set i x') (.slice (some ⟨g, 0, none⟩) n c) fp' ∧ fp'.Nodup ∧ ∀ b, b ∈ fp' → b ∈ fp ∨ w.heap.size ≤ b := by
  obtain ⟨es, he, ho, rfl⟩ := h
  have hn : n = xs.length := by
    rcases ho.2 with ⟨h, _⟩ | ⟨g', cap, cur, h, _⟩
    · cases h
    · injection h
  subst hn
  have hil : i < xs.length := (List.getElem?_eq_some_iff.1 hi).1
  have hie : i < es.length := by rw [he.1]; exact hil
  have hy := List.getElem?_eq_getElem hie
  have hown := he.2 i x _ hi hy
  simp only [Value.ownBlock, Option.toList_some, List.singleton_append, List.nodup_cons] at hnd
  have hgn : ∀ y ∈ es, g ∉ y.2 := fun y hy hg => hnd.1 (List.mem_flatMap.2 ⟨y, hy, hg⟩)
  have e1 : es = es.take i ++ es[i] :: es.drop (i + 1) := by rw [← List.drop_eq_getElem_cons hie, List.take_append_drop]
  have hd := hnd.2
  rw [e1] at hd
  simp only [List.flatMap_append, List.flatMap_cons, List.nodup_append] at hd
  have hmem : ∀ b, b ∈ es[i].2 → b ∈ es.flatMap (·.2) := fun b hb => List.mem_flatMap.2 ⟨_, List.getElem_mem hie, hb⟩
  have hlt : g < w.heap.size := (ho.lt g (by simp [Value.ownBlock])).2
  have holt : ∀ b, b ∈ es.flatMap (·.2) → b < w.heap.size := fun b hb => by
    obtain ⟨y, hy, hb⟩ := List.mem_flatMap.1 hb
    obtain ⟨k, hk, rfl⟩ := List.mem_iff_getElem.1 hy
    exact E.olt (he.2 k _ _ (List.getElem?_eq_getElem (show k < xs.length by rw [← he.1]; exact hk)) (List.getElem?_eq_getElem hk)) b hb
  refine ⟨es[i].1, es[i].2, hown, hd.2.1.1, fun b hb => ⟨List.mem_append_right _ (hmem b hb), fun e => hgn _ (List.getElem_mem hie) (e ▸ hb)⟩, fun j u hu => ?_, fun W x' u' fx' hc hx' hxn hxs => ?_⟩
  · have := ho.cells (g := g) rfl (i * E.size + j) u (flatMap_get (·.1) E.size es he.len i _ j u hy hu)
    rw [add0, hE, Nat.mul_one] at this
    exact this
  · have m1 : ∀ y, y ∈ es.take i → ∀ b, b ∈ y.2 → b ∉ es[i].2 := fun y hy b hb hm => hd.2.2 b (List.mem_flatMap.2 ⟨y, hy, hb⟩) b (List.mem_append_left _ hm) rfl
    have m2 : ∀ y, y ∈ es.drop (i + 1) → ∀ b, b ∈ y.2 → b ∉ es[i].2 := fun y hy b hb hm => hd.2.1.2.2 b hm b (List.mem_flatMap.2 ⟨y, hy, hb⟩) rfl
    have e2 : es.set i ([u'], fx') = es.take i ++ ([u'], fx') :: es.drop (i + 1) := List.set_eq_take_append_cons_drop.trans (by rw [if_pos hie])
    have hsub : ∀ b, b ∈ (es.set i ([u'], fx')).flatMap (·.2) → b ∈ es.flatMap (·.2) ∨ w.heap.size ≤ b := by
      intro b hb
      obtain ⟨y, hy, hb⟩ := List.mem_flatMap.1 hb
      rcases List.mem_or_eq_of_mem_set hy with h | rfl
      · exact .inl (List.mem_flatMap.2 ⟨y, h, hb⟩)
      · rcases hxs b hb with h | h
        · exact .inl (hmem b h)
        · exact .inr h
    have hoW : W.ownsRow 0 e E.size (.slice (some ⟨g, 0, none⟩) xs.length c) xs.length (es.flatMap (·.1)) := by
      refine ⟨ho.1, ?_⟩
      rcases ho.2 with h | ⟨g', cap, cur, hv, h1, h2, h3⟩
      · exact .inl h
      · injection hv with hA _ hcap
        subst hcap
        injection hA with hA
        injection hA with hA
        subst hA
        exact .inr ⟨g, _, cur, rfl, h1, (hc.block g hlt (hgn _ (List.getElem_mem hie))).trans h2, h3⟩
    refine ⟨_, ⟨es.set i ([u'], fx'), ⟨by rw [List.length_set, List.length_set, he.1], fun k y z hy hz => ?_⟩, ?_, rfl⟩, ?_, ?_⟩
    · by_cases hki : i = k
      · subst hki
        rw [List.getElem?_set_self hie] at hz
        rw [List.getElem?_set_self hil] at hy
        injection hy with hy; injection hz with hz
        subst hy; subst hz
        exact hx'
      · rw [List.getElem?_set_ne hki] at hz hy
        have hk := he.2 k y z hy hz
        refine E.okeep hk fun b hb => (Below.heap_setCell _ _ _ _ (show b ≠ g from fun e => hgn z (List.mem_of_getElem? hz) (e ▸ hb))).trans (hc.block b (E.olt hk b hb) ?_)
        have hkl : k < es.length := (List.getElem?_eq_some_iff.1 hz).1
        rcases Nat.lt_or_gt_of_ne hki with h | h
        · refine m2 z (List.mem_of_getElem? (i := k - (i + 1)) ?_) b hb
          rw [List.getElem?_drop, show i + 1 + (k - (i + 1)) = k by omega]
          exact hz
        · refine m1 z (List.mem_of_getElem? (i := k) ?_) b hb
          rw [List.getElem?_take, if_pos h]
          exact hz
    · rw [List.length_set]
      have h1 := (hoW.stored i u').1
      have hll := setList_elems E.size es i [u'] fx' he.len (by rw [hE]; rfl) hie
      have h2 : setList (es.flatMap (·.1)) (i * E.size) [u'] = (es.flatMap (·.1)).set i u' := by rw [hE, Nat.mul_one]; rfl
      rw [← hll, h2]
      rw [hE] at h1 ⊢
      exact h1
    · simp only [Value.ownBlock, Option.toList_some, List.singleton_append, List.nodup_cons]
      refine ⟨fun hg => ?_, ?_⟩
      · rcases hsub g hg with h | h
        · exact hnd.1 h
        · omega
      rw [e2]
      simp only [List.flatMap_append, List.flatMap_cons, List.nodup_append]
      refine ⟨hd.1, ⟨hxn, hd.2.1.2.1, fun a ha b hb hab => ?_⟩, fun a ha b hb hab => ?_⟩
      · rcases hxs a ha with h | h
        · exact hd.2.1.2.2 a h b hb hab
        · subst hab
          have := holt a (by rw [e1]; simp only [List.flatMap_append, List.flatMap_cons]; exact List.mem_append_right _ (List.mem_append_right _ hb))
          omega
      · subst hab
        rcases List.mem_append.1 hb with hb | hb
        · rcases hxs a hb with h | h
          · exact hd.2.2 a ha a (List.mem_append_left _ h) rfl
          · have := holt a (by rw [e1]; simp only [List.flatMap_append]; exact List.mem_append_left _ ha)
            omega
        · exact hd.2.2 a ha a (List.mem_append_right _ hb) rfl
    · intro b hb
      rcases List.mem_append.1 hb with h | h
      · exact .inl (List.mem_append_left _ h)
      · rcases hsub b h with h | h
        · exact .inl (List.mem_append_right _ h)
        · exact .inr h
end
theorem cell_heq {w w' : World} {g : Nat} (h : w'.heap[g]? = w.heap[g]?) (i : Nat) : w'.cell? ⟨g, i, none⟩ = w.cell? ⟨g, i, none⟩ := by simp [World.cell?, h]
theorem frz_heq {w w' : World} {g : Nat} (h : w'.heap[g]? = w.heap[g]?) (i : Nat) : w'.frozen? ⟨g, i, none⟩ = w.frozen? ⟨g, i, none⟩ := by simp [World.frozen?, h]
/-- the inner slice of element k, alone: when it has become another, its header is stored in its place -/
theorem SepF.openIn {β : Type} {E1 : Rep β} {e1 e2 : TypeId} {F : List Nat} {w0 wr : World} {ts : List Thing} {xss : List (List β)} {ys : List β} {fp : List Nat} {g n c k : Nat}
    (h : SepF F w0 wr ts) (i : Nat) (hi : ts[i]? = some (tsl (slice E1 e1) e2 xss (.slice (some ⟨g, 0, none⟩) n c) fp)) (hk : xss[k]? = some ys) :
    ∃ A m d fx, wr.cell? ⟨g, k, none⟩ = some (.slice A m d) ∧ m = ys.length ∧ SlOwn E1 e1 wr ys (.slice A m d) fx ∧ fx.Nodup ∧ g ∉ fx ∧ (∀ (j : Nat) u, j ≠ i → ts[j]? = some u → ∀ b, b ∈ u.fp → b ∉ fx) ∧ (∀ b, b ∈ fx → b ∈ fp) ∧
      ∀ W ys' A' m' d' fx', SepF fx wr W [tsl E1 e1 ys' (.slice A' m' d') fx'] →
        W.cell? ⟨g, k, none⟩ = some (.slice A m d) ∧ W.frozen? ⟨g, k, none⟩ = false ∧ (∀ (j : Nat) u, j ≠ i → ts[j]? = some u → u.holds W) ∧
        ∃ fp', SepF F w0 (W.setCell ⟨g, k, none⟩ (.slice A' m' d')) (ts.set i (tsl (slice E1 e1) e2 (xss.set k ys') (.slice (some ⟨g, 0, none⟩) n c) fp')) := by
  have ho : SlOwn (slice E1 e1) e2 wr xss (.slice (some ⟨g, 0, none⟩) n c) fp := h.at_ i hi
  have hg2 : g ∈ fp := ho.mem_block
  have hglt : g < wr.heap.size := ho.olt g hg2
  obtain ⟨cs, fx, k1, k2, k3, k4, k5⟩ := ho.repl (h.ndat hi) rfl hk
  obtain ⟨v, rfl, hv⟩ := k1
  obtain ⟨A, m, d, rfl, hm, hmc, _⟩ := hv.form
  have hc := k4 0 _ rfl
  have hgx : g ∉ fx := fun hh => (k3 g hh).2 rfl
  refine ⟨A, m, d, fx, hc, hm, hv, k2, hgx, fun j u hji hj b hb hm => h.apart hj hi hji b hb (k3 b hm).1, fun b hb => (k3 b hb).1, fun W ys' A' m' d' fx' hS => ?_⟩
  have hchg : Chg fx wr W := hS.chg
  have m1 : SlOwn E1 e1 W ys' (.slice A' m' d') fx' := hS.sl 0 rfl
  have hgq : ∀ b, b ∈ fx' → b ∈ fx ∨ wr.heap.size ≤ b := fun b hb => hS.new b (by simpa [tsl] using hb)
  have hgnq : g ∉ fx' := fun hh => by
    rcases hgq g hh with h | h
    · exact hgx h
    · omega
  have hown : (slice E1 e1).own (W.setCell ⟨g, k, none⟩ (.slice A' m' d')) ys' [.slice A' m' d'] fx' :=
    ⟨_, rfl, m1.okeep fun b hb => Below.heap_setCell _ _ _ _ (show b ≠ g from fun e => hgnq (e ▸ hb))⟩
  obtain ⟨fp', q1, q2, q3⟩ := k5 W ys' _ fx' hchg hown (by simpa [tsl] using hS.nd) hgq
  refine ⟨?_, ?_, fun j u hji hj => ?_, fp', ?_⟩
  · rw [cell_heq (hchg.block g hglt hgx)]
    exact hc
  · rw [frz_heq (hchg.block g hglt hgx)]
    exact ho.frozen k
  · exact u.keep (h.at_ j hj) fun b hb => hchg.block b (u.lt (h.at_ j hj) b hb) (fun hm => h.apart hj hi hji b hb (k3 b hm).1)
  · exact h.upd hi ((hchg.more fun b hb => (k3 b hb).1).setCell hg2 _) q1 q2 q3
end Mm
end Go.Proofs.Ytaepohocabealaa
