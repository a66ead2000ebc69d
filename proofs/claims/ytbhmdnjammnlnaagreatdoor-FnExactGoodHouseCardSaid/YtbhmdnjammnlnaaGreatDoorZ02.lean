/-
  Joined texts, in build order: Ox, Cl, Se, Sf, Sx, In, Ik, K0, J0, Jf. Each part says what it proves; no conditions beyond those that a part names.
-/
import Derived.Test.YtbhmdnjammnlnaaGreatDoorZ01
import Derived.Shelf.Spec.SlicesInsertGrow
import Derived.Lib.AppendZerosOnto
import Derived.Lib.Overlaps
import Derived.Lib.Bytealg
import Derived.Lib.ItoaLen
import Derived.Lib.ItoaMem
import Derived.Lib.AtoiTie
import Derived.Lib.AtoiBound
import Derived.Lib.SplitLaws
/-
  Owned slices, marked element by element: a cell of an element stored, the inside of an element changed. No program in sight. No conditions.
-/
namespace Go.Proofs.YtbhmdnjammnlnaaGreatDoor
open Go.RowKit
namespace Mm

def mkL {α : Type} (mk : α → Int → α) (cnt : α → Int) : List α → Int → List α
  | [], _ => []
  | x :: t, k => mk x k :: mkL mk cnt t (k + cnt x)
def cntL {α : Type} (cnt : α → Int) : List α → Int
  | [] => 0
  | x :: t => cnt x + cntL cnt t
section
variable {α : Type} {mk : α → Int → α} {cnt : α → Int}
theorem mkL_cons (x : α) (t : List α) (k : Int) : mkL mk cnt (x :: t) k = mk x k :: mkL mk cnt t (k + cnt x) := rfl
theorem cntL_cons (x : α) (t : List α) : cntL cnt (x :: t) = cnt x + cntL cnt t := rfl
theorem mkL_len : ∀ (l : List α) (k : Int), (mkL mk cnt l k).length = l.length
  | [], _ => rfl
  | x :: t, k => by rw [mkL_cons, List.length_cons, mkL_len t, List.length_cons]
theorem cntL_app : ∀ (l m : List α), cntL cnt (l ++ m) = cntL cnt l + cntL cnt m
  | [], m => by simp [cntL]
  | x :: t, m => by rw [List.cons_append, cntL_cons, cntL_cons, cntL_app t m]; omega
theorem cntL_nn (h : ∀ x, 0 ≤ cnt x) : ∀ l : List α, 0 ≤ cntL cnt l
  | [] => by simp [cntL]
  | x :: t => by have := cntL_nn h t; have := h x; rw [cntL_cons]; omega
theorem mkL_app : ∀ (l m : List α) (k : Int), mkL mk cnt (l ++ m) k = mkL mk cnt l k ++ mkL mk cnt m (k + cntL cnt l)
  | [], m, k => by simp [mkL, cntL]
  | x :: t, m, k => by
    rw [List.cons_append, mkL_cons, mkL_cons, mkL_app t m, List.cons_append, cntL_cons]
    rw [show k + (cnt x + cntL cnt t) = k + cnt x + cntL cnt t by omega]
theorem take_succ_some {l : List α} {i : Nat} {x : α} (h : l[i]? = some x) : l.take (i + 1) = l.take i ++ [x] := by
  have hi : i < l.length := (List.getElem?_eq_some_iff.1 h).1
  rw [List.take_succ_eq_append_getElem hi]
  rw [List.getElem?_eq_getElem hi] at h
  injection h with h
  rw [h]
theorem cntL_succ {l : List α} {i : Nat} {x : α} (h : l[i]? = some x) : cntL cnt (l.take (i + 1)) = cntL cnt (l.take i) + cnt x := by
  rw [take_succ_some h, cntL_app]; simp [cntL]
theorem cntL_take_le (hn : ∀ x, 0 ≤ cnt x) (l : List α) (i : Nat) : cntL cnt (l.take i) ≤ cntL cnt l := by
  have h : cntL cnt l = cntL cnt (l.take i) + cntL cnt (l.drop i) := by rw [← cntL_app, List.take_append_drop]
  have := cntL_nn hn (l.drop i)
  omega
theorem mkL_get : ∀ {l : List α} {i : Nat} {x : α} {k : Int}, l[i]? = some x → (mkL mk cnt l k)[i]? = some (mk x (k + cntL cnt (l.take i)))
  | [], i, x, k, h => by simp at h
  | y :: t, 0, x, k, h => by
    simp at h
    subst h
    simp [mkL, cntL]
  | y :: t, i + 1, x, k, h => by
    have := mkL_get (l := t) (i := i) (x := x) (k := k + cnt y) (by simpa using h)
    rw [mkL_cons, List.getElem?_cons_succ, this, List.take_succ_cons, cntL_cons]
    rw [show k + (cnt y + cntL cnt (t.take i)) = k + cnt y + cntL cnt (t.take i) by omega]
/-- the first i are marked -/
def half (mk : α → Int → α) (cnt : α → Int) (l : List α) (k : Int) (i : Nat) : List α := mkL mk cnt (l.take i) k ++ l.drop i
theorem half_zero (l : List α) (k : Int) : half mk cnt l k 0 = l := by simp [half, mkL]
theorem half_end {l : List α} {k : Int} {i : Nat} (h : l.length ≤ i) : half mk cnt l k i = mkL mk cnt l k := by
  unfold half; rw [List.take_of_length_le h, List.drop_eq_nil_of_le h, List.append_nil]
theorem half_len (l : List α) (k : Int) (i : Nat) : (half mk cnt l k i).length = l.length := by
  unfold half; rw [List.length_append, mkL_len, List.length_take, List.length_drop]; omega
theorem half_get {l : List α} {k : Int} {i : Nat} {x : α} (h : l[i]? = some x) : (half mk cnt l k i)[i]? = some x := by
  have hi : i < l.length := (List.getElem?_eq_some_iff.1 h).1
  have hl : (mkL mk cnt (l.take i) k).length = i := by rw [mkL_len, List.length_take]; omega
  unfold half
  rw [List.getElem?_append_right (by omega), hl, Nat.sub_self, List.getElem?_drop, Nat.add_zero, h]
theorem half_set {l : List α} {k : Int} {i : Nat} {x : α} (h : l[i]? = some x) : (half mk cnt l k i).set i (mk x (k + cntL cnt (l.take i))) = half mk cnt l k (i + 1) := by
  have hi : i < l.length := (List.getElem?_eq_some_iff.1 h).1
  have hl : (mkL mk cnt (l.take i) k).length = i := by rw [mkL_len, List.length_take]; omega
  have hd : l.drop i = x :: l.drop (i + 1) := by
    rw [List.drop_eq_getElem_cons hi]
    rw [List.getElem?_eq_getElem hi] at h
    injection h with h
    rw [h]
  unfold half
  rw [List.set_append, if_neg (by omega), hl, Nat.sub_self, hd, List.set_cons_zero, take_succ_some h, mkL_app, List.append_assoc]
  simp [mkL]
end

section
variable {α : Type} {E : Rep α} {e : TypeId} {w w' : World} {xs : List α} {fp : List Nat}

theorem cell_sp {w : World} {g a a' : Nat} {u : Option Value} (h : w.cell? ⟨g, a, none⟩ = u) (e : a = a') : w.cell? ⟨g, a', none⟩ = u := e ▸ h
theorem setList_one (l : List Value) (o : Nat) (u : Value) : setList l o [u] = l.set o u := rfl
/-- one cell of element i is stored into -/
theorem SlOwn.store {g n c : Nat} (h : SlOwn E e w xs (.slice (some ⟨g, 0, none⟩) n c) fp) (hnd : fp.Nodup) {i j : Nat} {x x' : α} {u : Value} (hi : xs[i]? = some x) (hj : j < E.size)
    (hx : ∀ cs fx, E.own w x cs fx → E.own w x' (cs.set j u) fx) : SlOwn E e (w.setCell ⟨g, i * E.size + j, none⟩ u) (xs.set i x') (.slice (some ⟨g, 0, none⟩) n c) fp := by
  obtain ⟨es, he, ho, rfl⟩ := h
  have hn : n = xs.length := by
    rcases ho.2 with ⟨h, _⟩ | ⟨g', cap, cur, h, _⟩
    · cases h
    · injection h
  subst hn
  have hil : i < xs.length := (List.getElem?_eq_some_iff.1 hi).1
  have hie : i < es.length := by rw [he.1]; exact hil
  have hy := List.getElem?_eq_getElem hie
  have hown := he.2 i x _ hi hy
  have hgn : ∀ y ∈ es, g ∉ y.2 := fun y hy hg => by
    simp only [Value.ownBlock, Option.toList_some, List.singleton_append, List.nodup_cons] at hnd
    exact hnd.1 (List.mem_flatMap.2 ⟨y, hy, hg⟩)
  have hk : ∀ b, b ≠ g → (w.setCell ⟨g, i * E.size + j, none⟩ u).heap[b]? = w.heap[b]? := fun b hb => Below.heap_setCell _ _ _ _ hb
  have hnew : E.own w x' (es[i].1.set j u) es[i].2 := hx _ _ hown
  have hes2 : (es.set i (es[i].1.set j u, es[i].2)).flatMap (·.2) = es.flatMap (·.2) := by
    have e2 : es.set i (es[i].1.set j u, es[i].2) = es.take i ++ (es[i].1.set j u, es[i].2) :: es.drop (i + 1) := List.set_eq_take_append_cons_drop.trans (by rw [if_pos hie])
    have e1 : es = es.take i ++ es[i] :: es.drop (i + 1) := by rw [← List.drop_eq_getElem_cons hie, List.take_append_drop]
    have e3 := congrArg (List.flatMap (·.2)) e1
    rw [List.flatMap_append, List.flatMap_cons] at e3
    rw [e2, List.flatMap_append, List.flatMap_cons]
    exact e3.symm
  refine ⟨es.set i (es[i].1.set j u, es[i].2), ⟨by rw [List.length_set, List.length_set, he.1], fun k y z hy hz => ?_⟩, ?_, by rw [hes2]⟩
  · by_cases hki : i = k
    · subst hki
      rw [List.getElem?_set_self hie] at hz
      rw [List.getElem?_set_self hil] at hy
      injection hy with hy; injection hz with hz
      subst hy; subst hz
      exact E.okeep hnew fun b hb => hk b (fun e => hgn _ (List.getElem_mem hie) (e ▸ hb))
    · rw [List.getElem?_set_ne hki] at hz hy
      exact E.okeep (he.2 k y z hy hz) fun b hb => hk b (fun e => hgn z (List.mem_of_getElem? hz) (e ▸ hb))
  · rw [List.length_set]
    have h1 := (ho.stored (i * E.size + j) u).1
    have hll := setList_elems E.size es i (es[i].1.set j u) es[i].2 he.len (by rw [List.length_set]; exact E.olen hown) hie
    rw [← hll]
    -- the whole element's cells, but for j, are what they were
    have hs : setList (es.flatMap (·.1)) (i * E.size) (es[i].1.set j u) = (es.flatMap (·.1)).set (i * E.size + j) u := by
      have hlen : (es.flatMap (·.1)).length = xs.length * E.size := ho.1
      have hle : i * E.size + E.size ≤ xs.length * E.size := by
        have := Nat.mul_le_mul_right E.size (show i + 1 ≤ xs.length by omega)
        rw [Nat.add_mul] at this; omega
      have hol := E.olen hown
      apply List.ext_getElem?
      intro k
      rw [setList_get _ _ _ _ (by rw [List.length_set, hol, hlen]; exact hle), List.length_set, hol]
      by_cases hkk : i * E.size ≤ k ∧ k < i * E.size + E.size
      · rw [if_pos hkk]
        by_cases hkj : k = i * E.size + j
        · subst hkj
          rw [show i * E.size + j - i * E.size = j by omega, List.getElem?_set_self (by omega), List.getElem?_set_self (by omega)]
        · rw [List.getElem?_set_ne (by omega), List.getElem?_set_ne (by omega)]
          have hu := List.getElem?_eq_getElem (show k - i * E.size < es[i].1.length by omega)
          have := flatMap_get (·.1) E.size es he.len i _ (k - i * E.size) _ hy hu
          rw [show i * E.size + (k - i * E.size) = k by omega] at this
          rw [this, hu]
      · rw [if_neg hkk, List.getElem?_set_ne (by omega)]
    rw [hs]
    exact h1
/-- the inside of element i: what it owns; and the whole, once that has changed -/
theorem SlOwn.inner {g n c : Nat} (h : SlOwn E e w xs (.slice (some ⟨g, 0, none⟩) n c) fp) (hnd : fp.Nodup) {i : Nat} {x : α} (hi : xs[i]? = some x) :
    ∃ cs fx, E.own w x cs fx ∧ fx.Nodup ∧ (∀ b, b ∈ fx → b ∈ fp ∧ b ≠ g) ∧ (∀ j u, cs[j]? = some u → w.cell? ⟨g, i * E.size + j, none⟩ = some u) ∧
      ∀ w' x' fx', Chg fx w w' → E.own w' x' cs fx' → fx'.Nodup → (∀ b, b ∈ fx' → b ∈ fx) → ∃ fp', SlOwn E e w' (xs.set i x') (.slice (some ⟨g, 0, none⟩) n c) fp' ∧ fp'.Nodup ∧ ∀ b, b ∈ fp' → b ∈ fp := by
  obtain ⟨es, he, ho, rfl⟩ := h
  have hn : n = xs.length := by
    rcases ho.2 with ⟨h, _⟩ | ⟨g', cap, cur, h, _⟩
    · cases h
    · injection h
  subst hn
  have hil : i < xs.length := (List.getElem?_eq_some_iff.1 hi).1
  have hie : i < es.length := by rw [he.1]; exact hil
  have hy := List.getElem?_eq_getElem hie
  have hown := he.2 i x _ hi hy
  simp only [Value.ownBlock, Option.toList_some, List.singleton_append, List.nodup_cons] at hnd
  have hgn : ∀ y ∈ es, g ∉ y.2 := fun y hy hg => hnd.1 (List.mem_flatMap.2 ⟨y, hy, hg⟩)
  have e1 : es = es.take i ++ es[i] :: es.drop (i + 1) := by rw [← List.drop_eq_getElem_cons hie, List.take_append_drop]
  have hd := hnd.2
  rw [e1] at hd
  simp only [List.flatMap_append, List.flatMap_cons, List.nodup_append] at hd
  have hmem : ∀ b, b ∈ es[i].2 → b ∈ es.flatMap (·.2) := fun b hb => List.mem_flatMap.2 ⟨_, List.getElem_mem hie, hb⟩
  refine ⟨es[i].1, es[i].2, hown, hd.2.1.1, fun b hb => ⟨List.mem_append_right _ (hmem b hb), fun e => hgn _ (List.getElem_mem hie) (e ▸ hb)⟩, fun j u hu => ?_, fun w' x' fx' hc hx' hxn hxs => ?_⟩
  · have := ho.cells (g := g) rfl (i * E.size + j) u (flatMap_get (·.1) E.size es he.len i _ j u hy hu)
    rw [add0] at this
    exact this
  · have m1 : ∀ y, y ∈ es.take i → ∀ b, b ∈ y.2 → b ∉ es[i].2 := fun y hy b hb hm => hd.2.2 b (List.mem_flatMap.2 ⟨y, hy, hb⟩) b (List.mem_append_left _ hm) rfl
    have m2 : ∀ y, y ∈ es.drop (i + 1) → ∀ b, b ∈ y.2 → b ∉ es[i].2 := fun y hy b hb hm => hd.2.1.2.2 b hm b (List.mem_flatMap.2 ⟨y, hy, hb⟩) rfl
    have e2 : es.set i (es[i].1, fx') = es.take i ++ (es[i].1, fx') :: es.drop (i + 1) := List.set_eq_take_append_cons_drop.trans (by rw [if_pos hie])
    have hfl : (es.set i (es[i].1, fx')).flatMap (·.1) = es.flatMap (·.1) := by
      have e3 := congrArg (List.flatMap (·.1)) e1
      rw [List.flatMap_append, List.flatMap_cons] at e3
      rw [e2, List.flatMap_append, List.flatMap_cons]
      exact e3.symm
    have hsub : ∀ b, b ∈ (es.set i (es[i].1, fx')).flatMap (·.2) → b ∈ es.flatMap (·.2) := by
      intro b hb
      obtain ⟨y, hy, hb⟩ := List.mem_flatMap.1 hb
      rcases List.mem_or_eq_of_mem_set hy with h | rfl
      · exact List.mem_flatMap.2 ⟨y, h, hb⟩
      · exact hmem b (hxs b hb)
    have hlt : g < w.heap.size := by
      have := ho.lt g (by simp [Value.ownBlock])
      exact this.2
    refine ⟨_, ⟨es.set i (es[i].1, fx'), ⟨by rw [List.length_set, List.length_set, he.1], fun k y z hy hz => ?_⟩, ⟨?_, ?_⟩, rfl⟩, ?_, ?_⟩
    · by_cases hki : i = k
      · subst hki
        rw [List.getElem?_set_self hie] at hz
        rw [List.getElem?_set_self hil] at hy
        injection hy with hy; injection hz with hz
        subst hy; subst hz
        exact hx'
      · rw [List.getElem?_set_ne hki] at hz hy
        have hk := he.2 k y z hy hz
        refine E.okeep hk fun b hb => hc.block b (E.olt hk b hb) ?_
        have hkl : k < es.length := (List.getElem?_eq_some_iff.1 hz).1
        rcases Nat.lt_or_gt_of_ne hki with h | h
        · refine m2 z (List.mem_of_getElem? (i := k - (i + 1)) ?_) b hb
          rw [List.getElem?_drop, show i + 1 + (k - (i + 1)) = k by omega]
          exact hz
        · refine m1 z (List.mem_of_getElem? (i := k) ?_) b hb
          rw [List.getElem?_take, if_pos h]
          exact hz
    · rw [hfl, List.length_set]; exact ho.1
    · rw [hfl, List.length_set]
      rcases ho.2 with h | ⟨g', cap, cur, hv, h1, h2, h3⟩
      · exact .inl h
      · injection hv with hA _ hcap
        subst hcap
        injection hA with hA
        injection hA with hA
        subst hA
        exact .inr ⟨g, _, cur, rfl, h1, (hc.block g hlt (hgn _ (List.getElem_mem hie))).trans h2, h3⟩
    · simp only [Value.ownBlock, Option.toList_some, List.singleton_append, List.nodup_cons]
      refine ⟨fun hg => hnd.1 (hsub g hg), ?_⟩
      rw [e2]
      simp only [List.flatMap_append, List.flatMap_cons, List.nodup_append]
      refine ⟨hd.1, ⟨hxn, hd.2.1.2.1, fun a ha b hb hab => ?_⟩, fun a ha b hb hab => ?_⟩
      · exact hd.2.1.2.2 a (hxs a ha) b hb hab
      · rcases List.mem_append.1 hb with hb | hb
        · exact hd.2.2 a ha b (List.mem_append_left _ (hxs b hb)) hab
        · exact hd.2.2 a ha b (List.mem_append_right _ hb) hab
    · intro b hb
      rcases List.mem_append.1 hb with hb | hb
      · exact List.mem_append_left _ hb
      · exact List.mem_append_right _ (hsub b hb)
end
/-- in the middle of a marking -/
def MkAt {α : Type} (E : Rep α) (t : TypeId) (mk : α → Int → α) (cnt : α → Int) (w : World) (l : List α) (v : Value) (fp : List Nat) (k : Int) (i : Nat) (wr : World) : Prop :=
  Chg fp w wr ∧ ∃ fp', SlOwn E t wr (half mk cnt l k i) v fp' ∧ fp'.Nodup ∧ ∀ b, b ∈ fp' → b ∈ fp
/-- what a marking leaves -/
def MkRet {α : Type} (E : Rep α) (t : TypeId) (mk : α → Int → α) (cnt : α → Int) (w : World) (l : List α) (v : Value) (fp : List Nat) (k : Int) (e : Ending) (w' : World) : Prop :=
  e = .returned (.int .i64 (k + cntL cnt l)) ∧ Chg fp w w' ∧ ∃ fp', SlOwn E t w' (mkL mk cnt l k) v fp' ∧ fp'.Nodup ∧ ∀ b, b ∈ fp' → b ∈ fp
section
variable {α : Type} {E : Rep α} {t : TypeId} {mk : α → Int → α} {cnt : α → Int} {w wr : World} {l : List α} {v : Value} {fp : List Nat} {k : Int} {i : Nat}
theorem MkAt.start (h : SlOwn E t w l v fp) (hnd : fp.Nodup) : MkAt E t mk cnt w l v fp k 0 w := ⟨Chg.refl _ _, fp, by rw [half_zero]; exact h, hnd, fun b hb => hb⟩
theorem MkAt.done (h : MkAt E t mk cnt w l v fp k i wr) (hi : l.length ≤ i) : MkRet E t mk cnt w l v fp k (.returned (.int .i64 (k + cntL cnt (l.take i)))) wr := by
  obtain ⟨h1, fp', h2, h3, h4⟩ := h
  rw [half_end hi] at h2
  rw [List.take_of_length_le hi]
  exact ⟨rfl, h1, fp', h2, h3, h4⟩
end
/-- what the marking of a whole struct leaves -/
def MkTop {α : Type} (R : Rep α) (top : α → Int → α) (ctop : α → Int) (w : World) (x : α) (cs : List Value) (fp : List Nat) (k : Int) (e : Ending) (w' : World) : Prop :=
  e = .returned (.int .i64 (k + ctop x)) ∧ Chg fp w w' ∧ ∃ fp', R.own w' (top x k) cs fp' ∧ fp'.Nodup ∧ ∀ b, b ∈ fp' → b ∈ fp
theorem und_chg {fp : List Nat} {a b c : World} (h : Chg fp a b) (k : Below b.heap.size b c) : Chg fp a c := h.trans (Chg.of_below k)
end Mm
end Go.Proofs.YtbhmdnjammnlnaaGreatDoor

/-
  A slice copied by append: 'slices.Clone', 'append([]T{}, l...)', where the elements lead nowhere. No program in sight. No conditions.
-/
namespace Go.Proofs.YtbhmdnjammnlnaaGreatDoor
open Go.RowKit
namespace Mm
theorem flatMap_inv {β γ : Type} (f : β → List γ) (s : Nat) : ∀ (l : List β), (∀ y ∈ l, (f y).length = s) → ∀ (j : Nat) (u : γ), (l.flatMap f)[j]? = some u → ∃ i r y, j = i * s + r ∧ l[i]? = some y ∧ (f y)[r]? = some u
  | [], _, j, u, h => by simp at h
  | z :: t, hl, j, u, h => by
    have hz := hl z (by simp)
    rw [List.flatMap_cons] at h
    by_cases hj : j < s
    · rw [List.getElem?_append_left (by omega)] at h
      exact ⟨0, j, z, by omega, rfl, h⟩
    · rw [List.getElem?_append_right (by omega), hz] at h
      obtain ⟨i, r, y, h1, h2, h3⟩ := flatMap_inv f s t (fun y hy => hl y (by simp [hy])) _ _ h
      exact ⟨i + 1, r, y, by rw [Nat.add_mul]; omega, h2, h3⟩
section
variable {α : Type} {E : Rep α} {e : TypeId} {w w1 : World} {B : Nat} {xs : List α} {n c : Nat} {v : Value}
/-- the cells of a slice whose elements lead nowhere -/
theorem flat_cells {enc : α → List Value} {b off : Nat} (hE : ∀ x cs, E.at_ w B x cs → cs = enc x) (h : SlAt E w B xs (some ⟨b, off, none⟩) n c) :
    ∀ j u, (xs.flatMap enc)[j]? = some u → w.cell? ⟨b, off + j, none⟩ = some u := by
  have hlen : ∀ y ∈ xs, (enc y).length = E.size := fun y hy => by
    obtain ⟨i, hi, rfl⟩ := List.mem_iff_getElem.1 hy
    obtain ⟨x, cs, hx, _, ha, _⟩ := h.get' (k := i) (by rw [← h.1]; exact hi)
    rw [List.getElem?_eq_getElem hi] at hx
    injection hx with hx
    subst hx
    rw [← hE _ _ ha]
    exact E.len ha
  intro j u hu
  obtain ⟨i, r, y, rfl, h2, h3⟩ := flatMap_inv enc E.size xs hlen j u hu
  obtain ⟨x, cs, hx, _, ha, hc⟩ := h.get' (k := i) (by rw [← h.1]; exact (List.getElem?_eq_some_iff.1 h2).1)
  rw [h2] at hx
  injection hx with hx
  subst hx
  rw [hE _ _ ha] at hc
  have := hc r u h3
  rwa [Nat.add_assoc] at this
theorem flat_cells' {enc : α → List Value} {a : Addr} (hE : ∀ x cs, E.at_ w B x cs → cs = enc x) (h : SlAt E w B xs (some a) n c) :
    ∀ j u, (xs.flatMap enc)[j]? = some u → w.cell? (a.add j) = some u := by
  intro j u hu
  have hn : 0 < n := by
    apply Classical.byContradiction
    intro hn
    have h0 : xs = [] := List.length_eq_zero_iff.1 (by rw [h.1]; omega)
    rw [h0] at hu
    simp at hu
  obtain ⟨x, b, off, cs, _, hA, _⟩ := h.get hn
  injection hA with hA
  subst hA
  rw [Addr.add_lit]
  exact flat_cells hE h j u hu
/-- s[k:] -/
theorem SlAt.drop {b off k : Nat} (h : SlAt E w B xs (some ⟨b, off, none⟩) n c) (hk : k ≤ n) : SlAt E w B (xs.drop k) (some ⟨b, off + k * E.size, none⟩) (n - k) (c - k) := by
  obtain ⟨h1, h2, h3, h4, h5⟩ := h
  refine ⟨by rw [List.length_drop]; omega, by omega, by omega, (fun hh => by cases hh), fun i x hx => ?_⟩
  rw [List.getElem?_drop] at hx
  obtain ⟨b', off', cs, hA, hb, ha, hc⟩ := h5 (k + i) x hx
  injection hA with hA
  injection hA with e1 e2
  subst e1; subst e2
  refine ⟨b, _, cs, rfl, hb, ha, fun j u hu => ?_⟩
  have := hc j u hu
  rw [Nat.add_mul, ← Nat.add_assoc] at this
  exact this
theorem SlOwn.of_row {enc : α → List Value} (ho : w.ownsRow 0 e E.size v n (xs.flatMap enc)) (hE : ∀ x, x ∈ xs → E.own w x (enc x) []) (hl : xs.length = n) : SlOwn E e w xs v v.ownBlock.toList := by
  have h1 : ∀ l : List α, (l.map fun x => (enc x, ([] : List Nat))).flatMap (·.1) = l.flatMap enc := fun l => by simp [List.flatMap_map]
  have h2 : ∀ l : List α, (l.map fun x => (enc x, ([] : List Nat))).flatMap (·.2) = [] := fun l => by simp [List.flatMap_map]
  subst hl
  refine ⟨xs.map fun x => (enc x, []), ⟨by simp, fun i x y hx hy => ?_⟩, by rw [h1]; exact ho, by rw [h2]; simp⟩
  rw [List.getElem?_map, hx] at hy
  simp at hy
  subst hy
  exact hE x (List.mem_of_getElem? hx)
theorem flat_len {enc : α → List Value} {A : Option Addr} (hE : ∀ x cs, E.at_ w B x cs → cs = enc x) (h : SlAt E w B xs A n c) : (xs.flatMap enc).length = n * E.size := by
  have hlen : ∀ y ∈ xs, (enc y).length = E.size := fun y hy => by
    obtain ⟨i, hi, rfl⟩ := List.mem_iff_getElem.1 hy
    obtain ⟨x, b, off, cs, hx, _, _, ha, _⟩ := h.get (k := i) (by rw [← h.1]; exact hi)
    rw [List.getElem?_eq_getElem hi] at hx
    injection hx with hx
    subst hx
    rw [← hE _ _ ha]
    exact E.len ha
  rw [← h.1]
  clear h
  induction xs with
  | nil => simp
  | cons z t ih => rw [List.flatMap_cons, List.length_append, ih (fun y hy => hlen y (by simp [hy])), hlen z (by simp), List.length_cons, Nat.add_mul]; omega
/-- what 'append(T{}, l...)' leaves, T{} laid in the newest block of w -/
theorem clone_post {enc : α → List Value} {o : Obj} {xs' : List Value} {m : Nat} (hm : m = n) (hx : xs' = xs.flatMap enc) (hown : w1.ownsRow w.heap.size e E.size v m xs') (hgrow : (w.alloc o).grownBy w1 (some w.heap.size)) (hE : ∀ x, x ∈ xs → E.own w1 x (enc x) []) (hl : xs.length = n) :
    Acc E e w xs v w1 := by
  subst hm; subst hx
  have hb : ∀ k, v.ownBlock = some k → w.heap.size ≤ k := fun k hk => (hown.lt k hk).1
  have h0 : w1.ownsRow 0 e E.size v m (xs.flatMap enc) := ⟨hown.1, hown.2.imp id fun ⟨g, cap, cur, h1, _, h3⟩ => ⟨g, cap, cur, h1, Nat.zero_le _, h3⟩⟩
  refine ⟨_, SlOwn.of_row h0 hE hl, by cases v.ownBlock <;> simp, fun b hb' => hb b (by simpa using hb'), ?_⟩
  exact (below_new (Below.refl _ _) o).grown hgrow (by rw [Mm.sz1]; omega) (fun k hk => by injection hk with hk; omega)
theorem Acc.newsl (h : Acc E e w xs v w1) : NewSl E e w xs (.returned v) w1 := by
  obtain ⟨fp, h1, h2, h3, h4⟩ := h
  obtain ⟨A, n, c, rfl, _⟩ := h1.form
  exact ⟨A, n, c, fp, rfl, h1, h2, h3, h4⟩
end
section
variable {α : Type} {E : Rep α} {t : TypeId} {w wr : World} {xs : List α}
/-- element i, which leads nowhere, is stored whole -/
theorem Acc.setAll {g n c i : Nat} {x : α} {cs : List Value} (h : Acc E t w xs (.slice (some ⟨g, 0, none⟩) n c) wr) (hi : i < xs.length) (hx : E.own wr x cs []) :
    Acc E t w (xs.set i x) (.slice (some ⟨g, 0, none⟩) n c) (setCells wr g (i * E.size) cs) := by
  obtain ⟨fp, h1, h2, h3, h4⟩ := h
  obtain ⟨fp', k1, k2, k3⟩ := h1.set hi hx h2 List.nodup_nil (fun b hb => by cases hb)
  refine ⟨fp', k1, k2, fun b hb => h3 b ((k3 b hb).resolve_right (fun hh => by cases hh)), ?_⟩
  exact h4.grown (setCells_grown _ _ _ _) h4.size (fun k hk => by injection hk with hk; subst hk; exact h3 _ h1.mem_block)
/-- one cell of element i is stored into -/
theorem Acc.put {g n c i j : Nat} {x x' : α} {u : Value} (h : Acc E t w xs (.slice (some ⟨g, 0, none⟩) n c) wr) (hi : xs[i]? = some x) (hj : j < E.size) (hx : ∀ cs fx, E.own wr x cs fx → E.own wr x' (cs.set j u) fx) :
    Acc E t w (xs.set i x') (.slice (some ⟨g, 0, none⟩) n c) (wr.setCell ⟨g, i * E.size + j, none⟩ u) := by
  obtain ⟨fp, h1, h2, h3, h4⟩ := h
  exact ⟨fp, h1.store h2 hi hj hx, h2, h3, h4.setCell (h3 g h1.mem_block) _⟩
end
end Mm
end Go.Proofs.YtbhmdnjammnlnaaGreatDoor

/-
  What a call owns: a list of things in memory, no block twice, all of them new since the call began; how the list goes on when one of them is changed. No program in sight. No conditions.
-/
namespace Go.Proofs.YtbhmdnjammnlnaaGreatDoor
open Go.RowKit
namespace Mm
structure Thing where
  fp : List Nat
  holds : World → Prop
  keep : ∀ {w w' : World}, holds w → (∀ b, b ∈ fp → w'.heap[b]? = w.heap[b]?) → holds w'
  lt : ∀ {w : World}, holds w → ∀ b, b ∈ fp → b < w.heap.size
def tblk (g : Nat) (t : TypeId) (cs : List Value) : Thing := ⟨[g], fun w => Blk w g t cs, fun h k => h.keep (k g (by simp)), fun h b hb => by rw [List.mem_singleton.1 hb]; exact h.lt⟩
def tsl {α : Type} (E : Rep α) (e : TypeId) (xs : List α) (v : Value) (fp : List Nat) : Thing := ⟨fp, fun w => SlOwn E e w xs v fp, fun h k => h.okeep k, fun h => h.olt⟩
def tow {α : Type} (R : Rep α) (x : α) (cs : List Value) (fp : List Nat) : Thing := ⟨fp, fun w => R.own w x cs fp, fun h k => R.okeep h k, fun h => R.olt h⟩
def tnil : Thing := ⟨[], fun _ => True, fun _ _ => trivial, fun _ b hb => by cases hb⟩

structure Sep (w0 wr : World) (ts : List Thing) : Prop where
  bel : Below w0.heap.size w0 wr
  nd : (ts.flatMap (·.fp)).Nodup
  new : ∀ b, b ∈ ts.flatMap (·.fp) → w0.heap.size ≤ b
  hold : ∀ t, t ∈ ts → t.holds wr

theorem flat_split {β γ : Type} (f : β → List γ) {l : List β} {i : Nat} {x : β} (h : l[i]? = some x) (y : β) :
    l.flatMap f = (l.take i).flatMap f ++ (f x ++ (l.drop (i + 1)).flatMap f) ∧ (l.set i y).flatMap f = (l.take i).flatMap f ++ (f y ++ (l.drop (i + 1)).flatMap f) := by
  obtain ⟨hi, hx⟩ := List.getElem?_eq_some_iff.1 h
  subst hx
  constructor
  · conv => lhs; rw [show l = l.take i ++ l[i] :: l.drop (i + 1) by rw [← List.drop_eq_getElem_cons hi, List.take_append_drop]]
    rw [List.flatMap_append, List.flatMap_cons]
  · rw [List.set_eq_take_append_cons_drop, if_pos hi, List.flatMap_append, List.flatMap_cons]

section
variable {w0 wr W : World} {ts : List Thing} {t t' s : Thing} {i j : Nat}
theorem Sep.start (w : World) : Sep w w [] := ⟨Below.refl _ _, by simp, by simp, by simp⟩
theorem Sep.start' {w W : World} (h : Below w.heap.size w W) : Sep w W [] := ⟨h, by simp, by simp, by simp⟩
theorem Sep.at_ (h : Sep w0 wr ts) (i : Nat) (hi : ts[i]? = some t) : t.holds wr := h.hold t (List.mem_of_getElem? hi)
theorem Sep.mem (hi : ts[i]? = some t) {b : Nat} (hb : b ∈ t.fp) : b ∈ ts.flatMap (·.fp) := List.mem_flatMap.2 ⟨t, List.mem_of_getElem? hi, hb⟩
theorem Sep.lt (h : Sep w0 wr ts) : ∀ b, b ∈ ts.flatMap (·.fp) → b < wr.heap.size := fun b hb => by
  obtain ⟨t, ht, hb⟩ := List.mem_flatMap.1 hb
  exact t.lt (h.hold t ht) b hb
theorem Sep.ndat (h : Sep w0 wr ts) (hi : ts[i]? = some t) : t.fp.Nodup := by
  have := h.nd
  rw [(flat_split (·.fp) hi t).1] at this
  exact ((List.nodup_append.1 this).2.1 |> List.nodup_append.1).1
theorem Sep.apart (h : Sep w0 wr ts) (hi : ts[i]? = some t) (hj : ts[j]? = some s) (hij : i ≠ j) : ∀ b, b ∈ t.fp → b ∉ s.fp := by
  have hnd := h.nd
  rw [(flat_split (·.fp) hi t).1, List.nodup_append, List.nodup_append] at hnd
  intro b hb hs
  rcases Nat.lt_or_gt_of_ne hij with h1 | h1
  · refine hnd.2.1.2.2 b hb b (List.mem_flatMap.2 ⟨s, List.mem_of_getElem? (i := j - (i + 1)) ?_, hs⟩) rfl
    rw [List.getElem?_drop, show i + 1 + (j - (i + 1)) = j by omega]; exact hj
  · refine hnd.2.2 b (List.mem_flatMap.2 ⟨s, List.mem_of_getElem? (i := j) ?_, hs⟩) b (List.mem_append_left _ hb) rfl
    rw [List.getElem?_take, if_pos h1]; exact hj
theorem Sep.step (h : Sep w0 wr ts) (hb : Below wr.heap.size wr W) : Sep w0 W ts :=
  ⟨below_step h.bel hb, h.nd, h.new, fun t ht => t.keep (h.hold t ht) fun b hb' => hb.block b (h.lt b (List.mem_flatMap.2 ⟨t, ht, hb'⟩))⟩
theorem Sep.add (h : Sep w0 wr ts) (hb : Below wr.heap.size wr W) (ht : t.holds W) (hnd : t.fp.Nodup) (hnew : ∀ b, b ∈ t.fp → wr.heap.size ≤ b) : Sep w0 W (t :: ts) := by
  have h1 := h.step hb
  refine ⟨h1.bel, ?_, fun b hb' => ?_, fun u hu => ?_⟩
  · rw [List.flatMap_cons, List.nodup_append]
    exact ⟨hnd, h.nd, fun a ha b hb' e => by subst e; have := hnew a ha; have := h.lt a hb'; omega⟩
  · rw [List.flatMap_cons] at hb'
    rcases List.mem_append.1 hb' with hb' | hb'
    · have := hnew b hb'; have := h.bel.size; omega
    · exact h.new b hb'
  · rcases List.mem_cons.1 hu with rfl | hu
    · exact ht
    · exact h1.hold u hu
theorem Sep.alloc (h : Sep w0 wr ts) (t : TypeId) (cs : List Value) : Sep w0 (wr.alloc (.cells cs.toArray t)) (tblk wr.heap.size t cs :: ts) :=
  h.add (below_new (Below.refl _ _) _) (Blk.new wr t cs) (by simp [tblk]) (by simp [tblk])
theorem Sep.alloc' {g : Nat} (h : Sep w0 wr ts) (hg : wr.heap.size = g) (t : TypeId) (cs : List Value) : Sep w0 (wr.alloc (.cells cs.toArray t)) (tblk g t cs :: ts) := by subst hg; exact h.alloc t cs
/-- thing number i has been changed, and nothing else that was there -/
theorem Sep.upd (h : Sep w0 wr ts) (hi : ts[i]? = some t) (hc : Chg t.fp wr W) (ht : t'.holds W) (hnd : t'.fp.Nodup) (hsub : ∀ b, b ∈ t'.fp → b ∈ t.fp ∨ wr.heap.size ≤ b) : Sep w0 W (ts.set i t') := by
  have hs := flat_split (·.fp) hi t'
  have hN := h.nd
  rw [hs.1, List.nodup_append, List.nodup_append] at hN
  have hL := h.lt
  rw [hs.1] at hL
  refine ⟨Below.chg h.bel hc h.bel.size (fun x hx => h.new x (Sep.mem hi hx)), ?_, ?_, ?_⟩
  · rw [hs.2, List.nodup_append, List.nodup_append]
    refine ⟨hN.1, ⟨hnd, hN.2.1.2.1, fun a ha b hb e => ?_⟩, fun a ha b hb e => ?_⟩
    · subst e
      rcases hsub a ha with h1 | h1
      · exact hN.2.1.2.2 a h1 a hb rfl
      · have := hL a (List.mem_append_right _ (List.mem_append_right _ hb)); omega
    · subst e
      rcases List.mem_append.1 hb with hb | hb
      · rcases hsub a hb with h1 | h1
        · exact hN.2.2 a ha a (List.mem_append_left _ h1) rfl
        · have := hL a (List.mem_append_left _ ha); omega
      · exact hN.2.2 a ha a (List.mem_append_right _ hb) rfl
  · intro b hb
    obtain ⟨u, hu, hb2⟩ := List.mem_flatMap.1 hb
    rcases List.mem_or_eq_of_mem_set hu with h1 | h1
    · exact h.new b (List.mem_flatMap.2 ⟨u, h1, hb2⟩)
    · rw [h1] at hb2
      rcases hsub b hb2 with h1 | h1
      · exact h.new b (Sep.mem hi h1)
      · have := h.bel.size; omega
  · intro u hu
    obtain ⟨k, hk⟩ := List.mem_iff_getElem?.1 hu
    by_cases hik : i = k
    · subst hik
      rw [List.getElem?_set_self (List.getElem?_eq_some_iff.1 hi).1] at hk
      injection hk with hk
      subst hk
      exact ht
    · rw [List.getElem?_set_ne hik] at hk
      have hu' := h.hold u (List.mem_of_getElem? hk)
      exact u.keep hu' fun b hb => hc.block b (u.lt hu' b hb) (fun hm => h.apart hi hk hik b hm hb)
/-- things i and j have been changed into one -/
theorem Sep.upd2 (h : Sep w0 wr ts) (hij : i ≠ j) (hi : ts[i]? = some t) (hj : ts[j]? = some s) (hc : Chg (t.fp ++ s.fp) wr W) (ht : t'.holds W) (hnd : t'.fp.Nodup) (hsub : ∀ b, b ∈ t'.fp → b ∈ t.fp ∨ b ∈ s.fp ∨ wr.heap.size ≤ b) :
    Sep w0 W ((ts.set j tnil).set i t') := by
  -- first the two are one thing, at i
  have hji : (ts.set j tnil)[i]? = some t := by rw [List.getElem?_set_ne (Ne.symm hij)]; exact hi
  have h1 : Sep w0 wr ((ts.set j tnil).set i ⟨t.fp ++ s.fp, fun w => t.holds w ∧ s.holds w, fun hh k => ⟨t.keep hh.1 fun b hb => k b (List.mem_append_left _ hb), s.keep hh.2 fun b hb => k b (List.mem_append_right _ hb)⟩,
      fun hh b hb => (List.mem_append.1 hb).elim (t.lt hh.1 b) (s.lt hh.2 b)⟩) := by
    have h2 : Sep w0 wr (ts.set j tnil) := h.upd hj (Chg.refl _ _) trivial (by simp [tnil]) (fun b hb => by cases hb)
    have ha := h.apart hi hj hij
    have hns := h.ndat hj
    have hs := flat_split (·.fp) hji ⟨t.fp ++ s.fp, fun w => t.holds w ∧ s.holds w, fun hh k => ⟨t.keep hh.1 fun b hb => k b (List.mem_append_left _ hb), s.keep hh.2 fun b hb => k b (List.mem_append_right _ hb)⟩,
      fun hh b hb => (List.mem_append.1 hb).elim (t.lt hh.1 b) (s.lt hh.2 b)⟩
    have hN := h2.nd
    rw [hs.1, List.nodup_append, List.nodup_append] at hN
    have hap : ∀ b, b ∈ s.fp → b ∉ (ts.set j tnil).flatMap (·.fp) := fun b hb hm => by
      obtain ⟨u, hu, hb'⟩ := List.mem_flatMap.1 hm
      obtain ⟨k, hk⟩ := List.mem_iff_getElem?.1 hu
      by_cases hjk : j = k
      · subst hjk
        rw [List.getElem?_set_self (List.getElem?_eq_some_iff.1 hj).1] at hk
        injection hk with hk
        subst hk
        cases hb'
      · rw [List.getElem?_set_ne hjk] at hk
        exact h.apart hj hk hjk b hb hb'
    rw [hs.1] at hap
    refine ⟨h2.bel, ?_, ?_, ?_⟩
    · rw [hs.2, List.nodup_append, List.nodup_append]
      refine ⟨hN.1, ⟨?_, hN.2.1.2.1, fun a ha' b hb e => ?_⟩, fun a ha' b hb e => ?_⟩
      · show (t.fp ++ s.fp).Nodup
        rw [List.nodup_append]
        exact ⟨hN.2.1.1, hns, fun a h3 b h4 e => by subst e; exact ha a h3 h4⟩
      · subst e
        rcases List.mem_append.1 ha' with h3 | h3
        · exact hN.2.1.2.2 a h3 a hb rfl
        · exact hap a h3 (List.mem_append_right _ (List.mem_append_right _ hb))
      · subst e
        rcases List.mem_append.1 hb with hb | hb
        · rcases List.mem_append.1 hb with h3 | h3
          · exact hN.2.2 a ha' a (List.mem_append_left _ h3) rfl
          · exact hap a h3 (List.mem_append_left _ ha')
        · exact hN.2.2 a ha' a (List.mem_append_right _ hb) rfl
    · intro b hb
      rw [hs.2] at hb
      rcases List.mem_append.1 hb with hb | hb
      · exact h2.new b (by rw [hs.1]; exact List.mem_append_left _ hb)
      · rcases List.mem_append.1 hb with hb | hb
        · rcases List.mem_append.1 hb with h3 | h3
          · exact h.new b (Sep.mem hi h3)
          · exact h.new b (Sep.mem hj h3)
        · exact h2.new b (by rw [hs.1]; exact List.mem_append_right _ (List.mem_append_right _ hb))
    · intro u hu
      rcases List.mem_or_eq_of_mem_set hu with h3 | rfl
      · exact h2.hold u h3
      · exact ⟨h.at_ i hi, h.at_ j hj⟩
  have hlt : i < (ts.set j tnil).length := (List.getElem?_eq_some_iff.1 hji).1
  have h3 := h1.upd (i := i) (List.getElem?_set_self hlt) hc ht hnd (fun b hb => by
    rcases hsub b hb with h | h | h
    · exact .inl (List.mem_append_left _ h)
    · exact .inl (List.mem_append_right _ h)
    · exact .inr h)
  rwa [List.set_set] at h3
end
section
variable {w0 wr W2 : World} {ts : List Thing} {s : Thing} {i j : Nat}
theorem Sep.setBlk {g k : Nat} {t : TypeId} {cs : List Value} (h : Sep w0 wr ts) (i : Nat) (hi : ts[i]? = some (tblk g t cs)) (u : Value) : Sep w0 (wr.setCell ⟨g, k, none⟩ u) (ts.set i (tblk g t (cs.set k u))) :=
  h.upd hi ((Chg.refl _ _).setCell (by simp [tblk]) u) ((show Blk wr g t cs from h.at_ i hi).set_ k u) (by simp [tblk]) (fun b hb => .inl hb)
variable {α : Type} {E : Rep α} {e : TypeId} {xs : List α} {v : Value} {fp : List Nat} {x : α} {cx : List Value}
theorem Sep.putSl {g n c k m : Nat} {x x' : α} {u : Value} (h : Sep w0 wr ts) (i : Nat) (hi : ts[i]? = some (tsl E e xs (.slice (some ⟨g, 0, none⟩) n c) fp)) (hk : xs[k]? = some x) (hm : m < E.size) (hx : ∀ cs fx, E.own wr x cs fx → E.own wr x' (cs.set m u) fx) :
    Sep w0 (wr.setCell ⟨g, k * E.size + m, none⟩ u) (ts.set i (tsl E e (xs.set k x') (.slice (some ⟨g, 0, none⟩) n c) fp)) := by
  have h1 : SlOwn E e wr xs (.slice (some ⟨g, 0, none⟩) n c) fp := h.at_ i hi
  have hnd : fp.Nodup := h.ndat hi
  exact h.upd hi ((Chg.refl _ _).setCell h1.mem_block u) (h1.store hnd hk hm hx) hnd (fun b hb => .inl hb)
theorem row_in {w : World} (h : SlOwn E e w xs v fp) {k : Nat} (hk : v.ownBlock = some k) : k ∈ fp := by
  obtain ⟨es, _, _, rfl⟩ := h
  exact List.mem_append_left _ (by rw [hk]; simp)
theorem Sep.put1 {g n c k : Nat} {x x' : α} {u : Value} (h : Sep w0 wr ts) (i : Nat) (hi : ts[i]? = some (tsl E e xs (.slice (some ⟨g, 0, none⟩) n c) fp)) (hE : E.size = 1) (hk : xs[k]? = some x) (hx : ∀ cs fx, E.own wr x cs fx → E.own wr x' [u] fx) :
    Sep w0 (wr.setCell ⟨g, k, none⟩ u) (ts.set i (tsl E e (xs.set k x') (.slice (some ⟨g, 0, none⟩) n c) fp)) := by
  have h1 := h.putSl (m := 0) (u := u) (x' := x') i hi hk (by omega) (fun cs fx ho => by
    have hl := E.olen ho
    rw [hE] at hl
    obtain ⟨a, rfl⟩ := List.length_eq_one_iff.1 hl
    exact hx _ _ ho)
  rwa [show k * E.size + 0 = k by rw [hE]; omega] at h1
theorem Sep.tail {t : Thing} (h : Sep w0 wr (t :: ts)) : Sep w0 wr ts := ⟨h.bel, by have := h.nd; rw [List.flatMap_cons, List.nodup_append] at this; exact this.2.1, fun b hb => h.new b (by rw [List.flatMap_cons]; exact List.mem_append_right _ hb), fun t ht => h.hold t (List.mem_cons_of_mem _ ht)⟩
theorem sl_addr {w : World} {A : Option Addr} {n c : Nat} (h : SlOwn E e w xs (.slice A n c) fp) (h0 : 0 < xs.length) : ∃ g, A = some ⟨g, 0, none⟩ ∧ g ∈ fp ∧ n = xs.length := by
  obtain ⟨A', n', c', hv, hn, _⟩ := h.form
  injection hv with h1 h2 h3
  have hm := fun g (hg : (Value.slice A n c).ownBlock = some g) => row_in h hg
  obtain ⟨es, he, ho, rfl⟩ := h
  obtain ⟨g, cap, hf, _⟩ := ho.form h0
  injection hf with hA
  subst hA
  exact ⟨g, rfl, hm g rfl, by omega⟩
theorem Sep.own0 (h : Sep w0 wr ts) (i : Nat) (hi : ts[i]? = some (tsl E e xs v fp)) : SlOwn E e wr xs v fp ∧ fp.Nodup ∧ (∀ b, b ∈ fp → w0.heap.size ≤ b) ∧ Below w0.heap.size w0 wr :=
  ⟨h.at_ i hi, h.ndat hi, fun b hb => h.new b (Sep.mem hi hb), h.bel⟩
/-- append, the new element a thing of the list -/
theorem Sep.push (h : Sep w0 wr ts) (i j : Nat) (hij : i ≠ j) (hi : ts[i]? = some (tsl E e xs v fp)) (hj : ts[j]? = some s) (hb : Below wr.heap.size wr W2) (hx : ∀ W, s.holds W → E.own W x cx s.fp) :
    ∃ l, W2.ownsRow 0 e E.size v xs.length l ∧ ∀ gg cap w1, w1.ownsRow 0 e E.size (.slice (some ⟨gg, 0, none⟩) (xs.length + 1) cap) (xs.length + 1) (l ++ cx) → W2.grownBy w1 v.ownBlock → (v.ownBlock = some gg ∨ gg = W2.heap.size) →
      ∃ fp', Sep w0 w1 ((ts.set j tnil).set i (tsl E e (xs ++ [x]) (.slice (some ⟨gg, 0, none⟩) (xs.length + 1) cap) fp')) := by
  have h2 := h.step hb
  have ho : SlOwn E e W2 xs v fp := h2.at_ i hi
  have hs := hx _ (h2.at_ j hj)
  obtain ⟨l, k1, k2⟩ := ho.push hs (h2.ndat hi) (h2.ndat hj) (fun b hb hm => h2.apart hi hj hij b hm hb)
  refine ⟨l, k1, fun gg cap w1 g1 g2 g3 => ?_⟩
  obtain ⟨fp', m1, m2, m3⟩ := k2 _ w1 g1 g2 (g3.elim (fun h => .inl h.symm) (fun h => .inr (by rw [h]; rfl)))
  refine ⟨fp', h2.upd2 hij hi hj ?_ m1 m2 (fun b hb => ?_)⟩
  · exact ⟨g2.os, g2.tape, g2.output, g2.size, fun k hk hn => g2.block k hk (fun hh => hn (List.mem_append_left _ (row_in ho hh.symm)))⟩
  · rcases m3 b hb with h | h | h
    · exact .inl h
    · exact .inr (.inl h)
    · exact .inr (.inr (by omega))
/-- append, the new element leads nowhere -/
theorem Sep.push0 (h : Sep w0 wr ts) (i : Nat) (hi : ts[i]? = some (tsl E e xs v fp)) (hb : Below wr.heap.size wr W2) (hx : E.own W2 x cx []) :
    ∃ l, W2.ownsRow 0 e E.size v xs.length l ∧ ∀ gg cap w1, w1.ownsRow 0 e E.size (.slice (some ⟨gg, 0, none⟩) (xs.length + 1) cap) (xs.length + 1) (l ++ cx) → W2.grownBy w1 v.ownBlock → (v.ownBlock = some gg ∨ gg = W2.heap.size) →
      ∃ fp', Sep w0 w1 (ts.set i (tsl E e (xs ++ [x]) (.slice (some ⟨gg, 0, none⟩) (xs.length + 1) cap) fp')) := by
  have h2 := h.step hb
  have ho : SlOwn E e W2 xs v fp := h2.at_ i hi
  obtain ⟨l, k1, k2⟩ := ho.push hx (h2.ndat hi) List.nodup_nil (fun b hb => by cases hb)
  refine ⟨l, k1, fun gg cap w1 g1 g2 g3 => ?_⟩
  obtain ⟨fp', m1, m2, m3⟩ := k2 _ w1 g1 g2 (g3.elim (fun h => .inl h.symm) (fun h => .inr (by rw [h]; rfl)))
  refine ⟨fp', h2.upd hi ?_ m1 m2 (fun b hb => ?_)⟩
  · exact ⟨g2.os, g2.tape, g2.output, g2.size, fun k hk hn => g2.block k hk (fun hh => hn (row_in ho hh.symm))⟩
  · rcases m3 b hb with h | h | h
    · exact .inl h
    · cases h
    · exact .inr (by omega)
/-- the inside of element k is changed -/
theorem Sep.putIn {g n c k : Nat} (h : Sep w0 wr ts) (i : Nat) (hi : ts[i]? = some (tsl E e xs (.slice (some ⟨g, 0, none⟩) n c) fp)) (hk : xs[k]? = some x) :
    ∃ cs fx, E.own wr x cs fx ∧ fx.Nodup ∧ (∀ b, b ∈ fx → b ∈ fp ∧ b ≠ g) ∧ (∀ j u, cs[j]? = some u → wr.cell? ⟨g, k * E.size + j, none⟩ = some u) ∧
      ∀ W x' fx', Chg fx wr W → E.own W x' cs fx' → fx'.Nodup → (∀ b, b ∈ fx' → b ∈ fx) → ∃ fp', Sep w0 W (ts.set i (tsl E e (xs.set k x') (.slice (some ⟨g, 0, none⟩) n c) fp')) := by
  have h1 : SlOwn E e wr xs (.slice (some ⟨g, 0, none⟩) n c) fp := h.at_ i hi
  obtain ⟨cs, fx, k1, k2, k3, k4, k5⟩ := h1.inner (h.ndat hi) hk
  refine ⟨cs, fx, k1, k2, k3, k4, fun W x' fx' m1 m2 m3 m4 => ?_⟩
  obtain ⟨fp', p1, p2, p3⟩ := k5 W x' fx' m1 m2 m3 m4
  exact ⟨fp', h.upd hi (m1.more fun b hb => (k3 b hb).1) p1 p2 (fun b hb => .inl (p3 b hb))⟩
theorem SlOwn.store1 {g n c k : Nat} {w : World} {x' : α} {u : Value} (h : SlOwn E e w xs (.slice (some ⟨g, 0, none⟩) n c) fp) (hnd : fp.Nodup) (hE : E.size = 1) (hk : xs[k]? = some x) (hx : ∀ cs fx, E.own w x cs fx → E.own w x' [u] fx) :
    SlOwn E e (w.setCell ⟨g, k, none⟩ u) (xs.set k x') (.slice (some ⟨g, 0, none⟩) n c) fp := by
  have h1 := h.store (j := 0) (u := u) (x' := x') hnd hk (by omega) (fun cs fx ho => by
    have hl := E.olen ho
    rw [hE] at hl
    obtain ⟨a, rfl⟩ := List.length_eq_one_iff.1 hl
    exact hx _ _ ho)
  rwa [show k * E.size + 0 = k by rw [hE]; omega] at h1
/-- what block i holds -/
theorem Sep.cell {g k : Nat} {t : TypeId} {cs : List Value} {u : Value} (h : Sep w0 wr ts) (i : Nat) (hi : ts[i]? = some (tblk g t cs)) (hu : cs[k]? = some u) : wr.cell? ⟨g, k, none⟩ = some u := (show Blk wr g t cs from h.at_ i hi).cell hu
theorem Sep.frz {g k : Nat} {t : TypeId} {cs : List Value} (h : Sep w0 wr ts) (i : Nat) (hi : ts[i]? = some (tblk g t cs)) : wr.frozen? ⟨g, k, none⟩ = false := (show Blk wr g t cs from h.at_ i hi).frozen k
theorem Sep.blk {g : Nat} {t : TypeId} {cs : List Value} (h : Sep w0 wr ts) (i : Nat) (hi : ts[i]? = some (tblk g t cs)) : g < wr.heap.size ∧ w0.heap.size ≤ g := ⟨(show Blk wr g t cs from h.at_ i hi).lt, h.new g (Sep.mem hi (by simp [tblk]))⟩
theorem Sep.sl (h : Sep w0 wr ts) (i : Nat) (hi : ts[i]? = some (tsl E e xs v fp)) : SlOwn E e wr xs v fp := h.at_ i hi
theorem Sep.slnew (h : Sep w0 wr ts) (i : Nat) (hi : ts[i]? = some (tsl E e xs v fp)) : ∀ b, b ∈ fp → w0.heap.size ≤ b ∧ b < wr.heap.size := fun b hb => ⟨h.new b (Sep.mem hi hb), (show SlOwn E e wr xs v fp from h.at_ i hi).olt b hb⟩
theorem Sep.rowne {g : Nat} {t : TypeId} {cs : List Value} (h : Sep w0 wr ts) (i j : Nat) (hi : ts[i]? = some (tsl E e xs v fp)) (hj : ts[j]? = some (tblk g t cs)) (hij : i ≠ j) : some g ≠ v.ownBlock := fun hh => h.apart hi hj hij g (row_in (h.sl i hi) hh.symm) (by simp [tblk])
end
end Mm
end Go.Proofs.YtbhmdnjammnlnaaGreatDoor

/-
  The same as 'Sep', where the call was handed things that it may change: F, the blocks that came in with them. No program in sight. No conditions.
-/
namespace Go.Proofs.YtbhmdnjammnlnaaGreatDoor
open Go.RowKit
namespace Mm
structure SepF (F : List Nat) (w0 wr : World) (ts : List Thing) : Prop where
  chg : Chg F w0 wr
  nd : (ts.flatMap (·.fp)).Nodup
  new : ∀ b, b ∈ ts.flatMap (·.fp) → b ∈ F ∨ w0.heap.size ≤ b
  hold : ∀ t, t ∈ ts → t.holds wr
/-- a struct behind a pointer -/
def tptr {α : Type} (R : Rep α) (t : TypeId) (g : Nat) (x : α) (fp : List Nat) : Thing :=
  ⟨g :: fp, fun w => ∃ cs, Blk w g t cs ∧ R.own w x cs fp, fun ⟨cs, h1, h2⟩ k => ⟨cs, h1.keep (k g (by simp)), R.okeep h2 fun b hb => k b (List.mem_cons_of_mem _ hb)⟩,
    fun ⟨cs, h1, h2⟩ b hb => by
      rcases List.mem_cons.1 hb with rfl | hb
      · exact h1.lt
      · exact R.olt h2 b hb⟩
/-- what a call leaves of a thing that it was handed -/
def Left (F : List Nat) (w w' : World) (t : Thing) : Prop := Chg F w w' ∧ t.fp.Nodup ∧ (∀ b, b ∈ t.fp → b ∈ F ∨ w.heap.size ≤ b) ∧ t.holds w'
section
variable {F : List Nat} {w0 wr W : World} {ts : List Thing} {t t' s : Thing} {i j : Nat}
theorem SepF.one (t : Thing) (w : World) (h : t.holds w) (hn : t.fp.Nodup) : SepF t.fp w w [t] := ⟨Chg.refl _ _, by simpa using hn, fun b hb => .inl (by simpa using hb), fun u hu => by rw [List.mem_singleton.1 hu]; exact h⟩
theorem SepF.conv {us : List Thing} (h : SepF F w0 wr ts) (hp : (us.flatMap (·.fp)).Perm (ts.flatMap (·.fp))) (hh : ∀ u, u ∈ us → u.holds wr) : SepF F w0 wr us :=
  ⟨h.chg, hp.nodup_iff.2 h.nd, fun b hb => h.new b (hp.mem_iff.1 hb), hh⟩
theorem SepF.chgon (h : SepF F w0 wr ts) (hi : ts[i]? = some t) (hc : Chg t.fp wr W) : Chg F w0 W := by
  refine ⟨hc.os.trans h.chg.os, hc.tape.trans h.chg.tape, hc.output.trans h.chg.output, Nat.le_trans h.chg.size hc.size, fun k hk hn => ?_⟩
  have hkw : k < wr.heap.size := Nat.lt_of_lt_of_le hk h.chg.size
  refine (hc.block k hkw fun hm => ?_).trans (h.chg.block k hk hn)
  rcases h.new k (List.mem_flatMap.2 ⟨t, List.mem_of_getElem? hi, hm⟩) with h1 | h1
  · exact hn h1
  · omega
theorem SepF.left (h : SepF F w0 wr [t]) : Left F w0 wr t := ⟨h.chg, by simpa using h.nd, fun b hb => h.new b (by simpa using hb), h.hold t (by simp)⟩
theorem SepF.at_ (h : SepF F w0 wr ts) (i : Nat) (hi : ts[i]? = some t) : t.holds wr := h.hold t (List.mem_of_getElem? hi)
theorem SepF.mem (hi : ts[i]? = some t) {b : Nat} (hb : b ∈ t.fp) : b ∈ ts.flatMap (·.fp) := List.mem_flatMap.2 ⟨t, List.mem_of_getElem? hi, hb⟩
theorem SepF.lt (h : SepF F w0 wr ts) : ∀ b, b ∈ ts.flatMap (·.fp) → b < wr.heap.size := fun b hb => by
  obtain ⟨t, ht, hb⟩ := List.mem_flatMap.1 hb
  exact t.lt (h.hold t ht) b hb
theorem SepF.ndat (h : SepF F w0 wr ts) (hi : ts[i]? = some t) : t.fp.Nodup := by
  have := h.nd
  rw [(flat_split (·.fp) hi t).1] at this
  exact ((List.nodup_append.1 this).2.1 |> List.nodup_append.1).1
theorem SepF.apart (h : SepF F w0 wr ts) (hi : ts[i]? = some t) (hj : ts[j]? = some s) (hij : i ≠ j) : ∀ b, b ∈ t.fp → b ∉ s.fp := by
  have hnd := h.nd
  rw [(flat_split (·.fp) hi t).1, List.nodup_append, List.nodup_append] at hnd
  intro b hb hs
  rcases Nat.lt_or_gt_of_ne hij with h1 | h1
  · refine hnd.2.1.2.2 b hb b (List.mem_flatMap.2 ⟨s, List.mem_of_getElem? (i := j - (i + 1)) ?_, hs⟩) rfl
    rw [List.getElem?_drop, show i + 1 + (j - (i + 1)) = j by omega]; exact hj
  · refine hnd.2.2 b (List.mem_flatMap.2 ⟨s, List.mem_of_getElem? (i := j) ?_, hs⟩) b (List.mem_append_left _ hb) rfl
    rw [List.getElem?_take, if_pos h1]; exact hj
theorem SepF.step (h : SepF F w0 wr ts) (hb : Below wr.heap.size wr W) : SepF F w0 W ts :=
  ⟨h.chg.trans (Chg.of_below hb), h.nd, h.new, fun t ht => t.keep (h.hold t ht) fun b hb' => hb.block b (h.lt b (List.mem_flatMap.2 ⟨t, ht, hb'⟩))⟩
theorem SepF.add (h : SepF F w0 wr ts) (hb : Below wr.heap.size wr W) (ht : t.holds W) (hnd : t.fp.Nodup) (hnew : ∀ b, b ∈ t.fp → wr.heap.size ≤ b) : SepF F w0 W (t :: ts) := by
  have h1 := h.step hb
  refine ⟨h1.chg, ?_, fun b hb' => ?_, fun u hu => ?_⟩
  · rw [List.flatMap_cons, List.nodup_append]
    exact ⟨hnd, h.nd, fun a ha b hb' e => by subst e; have := hnew a ha; have := h.lt a hb'; omega⟩
  · rw [List.flatMap_cons] at hb'
    rcases List.mem_append.1 hb' with hb' | hb'
    · have := hnew b hb'; have := h.chg.size; exact .inr (by omega)
    · exact h.new b hb'
  · rcases List.mem_cons.1 hu with rfl | hu
    · exact ht
    · exact h1.hold u hu
theorem SepF.alloc (h : SepF F w0 wr ts) (t : TypeId) (cs : List Value) : SepF F w0 (wr.alloc (.cells cs.toArray t)) (tblk wr.heap.size t cs :: ts) :=
  h.add (below_new (Below.refl _ _) _) (Blk.new wr t cs) (by simp [tblk]) (by simp [tblk])
theorem SepF.alloc' {g : Nat} (h : SepF F w0 wr ts) (hg : wr.heap.size = g) (t : TypeId) (cs : List Value) : SepF F w0 (wr.alloc (.cells cs.toArray t)) (tblk g t cs :: ts) := by subst hg; exact h.alloc t cs
/-- thing number i has been changed, and nothing else that was there -/
theorem SepF.upd (h : SepF F w0 wr ts) (hi : ts[i]? = some t) (hc : Chg t.fp wr W) (ht : t'.holds W) (hnd : t'.fp.Nodup) (hsub : ∀ b, b ∈ t'.fp → b ∈ t.fp ∨ wr.heap.size ≤ b) : SepF F w0 W (ts.set i t') := by
  have hs := flat_split (·.fp) hi t'
  have hN := h.nd
  rw [hs.1, List.nodup_append, List.nodup_append] at hN
  have hL := h.lt
  rw [hs.1] at hL
  refine ⟨h.chgon hi hc, ?_, ?_, ?_⟩
  · rw [hs.2, List.nodup_append, List.nodup_append]
    refine ⟨hN.1, ⟨hnd, hN.2.1.2.1, fun a ha b hb e => ?_⟩, fun a ha b hb e => ?_⟩
    · subst e
      rcases hsub a ha with h1 | h1
      · exact hN.2.1.2.2 a h1 a hb rfl
      · have := hL a (List.mem_append_right _ (List.mem_append_right _ hb)); omega
    · subst e
      rcases List.mem_append.1 hb with hb | hb
      · rcases hsub a hb with h1 | h1
        · exact hN.2.2 a ha a (List.mem_append_left _ h1) rfl
        · have := hL a (List.mem_append_left _ ha); omega
      · exact hN.2.2 a ha a (List.mem_append_right _ hb) rfl
  · intro b hb
    obtain ⟨u, hu, hb2⟩ := List.mem_flatMap.1 hb
    rcases List.mem_or_eq_of_mem_set hu with h1 | h1
    · exact h.new b (List.mem_flatMap.2 ⟨u, h1, hb2⟩)
    · rw [h1] at hb2
      rcases hsub b hb2 with h1 | h1
      · exact h.new b (SepF.mem hi h1)
      · have := h.chg.size; exact .inr (by omega)
  · intro u hu
    obtain ⟨k, hk⟩ := List.mem_iff_getElem?.1 hu
    by_cases hik : i = k
    · subst hik
      rw [List.getElem?_set_self (List.getElem?_eq_some_iff.1 hi).1] at hk
      injection hk with hk
      subst hk
      exact ht
    · rw [List.getElem?_set_ne hik] at hk
      have hu' := h.hold u (List.mem_of_getElem? hk)
      exact u.keep hu' fun b hb => hc.block b (u.lt hu' b hb) (fun hm => h.apart hi hk hik b hm hb)
/-- behind a call that was handed thing i -/
theorem SepF.call (h : SepF F w0 wr ts) (i : Nat) (hi : ts[i]? = some t) (hl : Left t.fp wr W t') : SepF F w0 W (ts.set i t') := h.upd hi hl.1 hl.2.2.2 hl.2.1 hl.2.2.1
/-- things i and j have been changed into one -/
theorem SepF.upd2 (h : SepF F w0 wr ts) (hij : i ≠ j) (hi : ts[i]? = some t) (hj : ts[j]? = some s) (hc : Chg (t.fp ++ s.fp) wr W) (ht : t'.holds W) (hnd : t'.fp.Nodup) (hsub : ∀ b, b ∈ t'.fp → b ∈ t.fp ∨ b ∈ s.fp ∨ wr.heap.size ≤ b) :
    SepF F w0 W ((ts.set j tnil).set i t') := by
  -- first the two are one thing, at i
  have hji : (ts.set j tnil)[i]? = some t := by rw [List.getElem?_set_ne (Ne.symm hij)]; exact hi
  have h1 : SepF F w0 wr ((ts.set j tnil).set i ⟨t.fp ++ s.fp, fun w => t.holds w ∧ s.holds w, fun hh k => ⟨t.keep hh.1 fun b hb => k b (List.mem_append_left _ hb), s.keep hh.2 fun b hb => k b (List.mem_append_right _ hb)⟩,
      fun hh b hb => (List.mem_append.1 hb).elim (t.lt hh.1 b) (s.lt hh.2 b)⟩) := by
    have h2 : SepF F w0 wr (ts.set j tnil) := h.upd hj (Chg.refl _ _) trivial (by simp [tnil]) (fun b hb => by cases hb)
    have ha := h.apart hi hj hij
    have hns := h.ndat hj
    have hs := flat_split (·.fp) hji ⟨t.fp ++ s.fp, fun w => t.holds w ∧ s.holds w, fun hh k => ⟨t.keep hh.1 fun b hb => k b (List.mem_append_left _ hb), s.keep hh.2 fun b hb => k b (List.mem_append_right _ hb)⟩,
      fun hh b hb => (List.mem_append.1 hb).elim (t.lt hh.1 b) (s.lt hh.2 b)⟩
    have hN := h2.nd
    rw [hs.1, List.nodup_append, List.nodup_append] at hN
    have hap : ∀ b, b ∈ s.fp → b ∉ (ts.set j tnil).flatMap (·.fp) := fun b hb hm => by
      obtain ⟨u, hu, hb'⟩ := List.mem_flatMap.1 hm
      obtain ⟨k, hk⟩ := List.mem_iff_getElem?.1 hu
      by_cases hjk : j = k
      · subst hjk
        rw [List.getElem?_set_self (List.getElem?_eq_some_iff.1 hj).1] at hk
        injection hk with hk
        subst hk
        cases hb'
      · rw [List.getElem?_set_ne hjk] at hk
        exact h.apart hj hk hjk b hb hb'
    rw [hs.1] at hap
    refine ⟨h2.chg, ?_, ?_, ?_⟩
    · rw [hs.2, List.nodup_append, List.nodup_append]
      refine ⟨hN.1, ⟨?_, hN.2.1.2.1, fun a ha' b hb e => ?_⟩, fun a ha' b hb e => ?_⟩
      · show (t.fp ++ s.fp).Nodup
        rw [List.nodup_append]
        exact ⟨hN.2.1.1, hns, fun a h3 b h4 e => by subst e; exact ha a h3 h4⟩
      · subst e
        rcases List.mem_append.1 ha' with h3 | h3
        · exact hN.2.1.2.2 a h3 a hb rfl
        · exact hap a h3 (List.mem_append_right _ (List.mem_append_right _ hb))
      · subst e
        rcases List.mem_append.1 hb with hb | hb
        · rcases List.mem_append.1 hb with h3 | h3
          · exact hN.2.2 a ha' a (List.mem_append_left _ h3) rfl
          · exact hap a h3 (List.mem_append_left _ ha')
        · exact hN.2.2 a ha' a (List.mem_append_right _ hb) rfl
    · intro b hb
      rw [hs.2] at hb
      rcases List.mem_append.1 hb with hb | hb
      · exact h2.new b (by rw [hs.1]; exact List.mem_append_left _ hb)
      · rcases List.mem_append.1 hb with hb | hb
        · rcases List.mem_append.1 hb with h3 | h3
          · exact h.new b (SepF.mem hi h3)
          · exact h.new b (SepF.mem hj h3)
        · exact h2.new b (by rw [hs.1]; exact List.mem_append_right _ (List.mem_append_right _ hb))
    · intro u hu
      rcases List.mem_or_eq_of_mem_set hu with h3 | rfl
      · exact h2.hold u h3
      · exact ⟨h.at_ i hi, h.at_ j hj⟩
  have hlt : i < (ts.set j tnil).length := (List.getElem?_eq_some_iff.1 hji).1
  have h3 := h1.upd (i := i) (List.getElem?_set_self hlt) hc ht hnd (fun b hb => by
    rcases hsub b hb with h | h | h
    · exact .inl (List.mem_append_left _ h)
    · exact .inl (List.mem_append_right _ h)
    · exact .inr h)
  rwa [List.set_set] at h3
end
section
variable {F : List Nat} {w0 wr W2 : World} {ts : List Thing} {s : Thing} {i j : Nat}
theorem SepF.setBlk {g k : Nat} {t : TypeId} {cs : List Value} (h : SepF F w0 wr ts) (i : Nat) (hi : ts[i]? = some (tblk g t cs)) (u : Value) : SepF F w0 (wr.setCell ⟨g, k, none⟩ u) (ts.set i (tblk g t (cs.set k u))) :=
  h.upd hi ((Chg.refl _ _).setCell (by simp [tblk]) u) ((show Blk wr g t cs from h.at_ i hi).set_ k u) (by simp [tblk]) (fun b hb => .inl hb)
variable {α : Type} {E : Rep α} {e : TypeId} {xs : List α} {v : Value} {fp : List Nat} {x : α} {cx : List Value}
theorem SepF.putSl {g n c k m : Nat} {x x' : α} {u : Value} (h : SepF F w0 wr ts) (i : Nat) (hi : ts[i]? = some (tsl E e xs (.slice (some ⟨g, 0, none⟩) n c) fp)) (hk : xs[k]? = some x) (hm : m < E.size) (hx : ∀ cs fx, E.own wr x cs fx → E.own wr x' (cs.set m u) fx) :
    SepF F w0 (wr.setCell ⟨g, k * E.size + m, none⟩ u) (ts.set i (tsl E e (xs.set k x') (.slice (some ⟨g, 0, none⟩) n c) fp)) := by
  have h1 : SlOwn E e wr xs (.slice (some ⟨g, 0, none⟩) n c) fp := h.at_ i hi
  have hnd : fp.Nodup := h.ndat hi
  exact h.upd hi ((Chg.refl _ _).setCell h1.mem_block u) (h1.store hnd hk hm hx) hnd (fun b hb => .inl hb)
theorem SepF.put1 {g n c k : Nat} {x x' : α} {u : Value} (h : SepF F w0 wr ts) (i : Nat) (hi : ts[i]? = some (tsl E e xs (.slice (some ⟨g, 0, none⟩) n c) fp)) (hE : E.size = 1) (hk : xs[k]? = some x) (hx : ∀ cs fx, E.own wr x cs fx → E.own wr x' [u] fx) :
    SepF F w0 (wr.setCell ⟨g, k, none⟩ u) (ts.set i (tsl E e (xs.set k x') (.slice (some ⟨g, 0, none⟩) n c) fp)) := by
  have h1 := h.putSl (m := 0) (u := u) (x' := x') i hi hk (by omega) (fun cs fx ho => by
    have hl := E.olen ho
    rw [hE] at hl
    obtain ⟨a, rfl⟩ := List.length_eq_one_iff.1 hl
    exact hx _ _ ho)
  rwa [show k * E.size + 0 = k by rw [hE]; omega] at h1
theorem SepF.tail {t : Thing} (h : SepF F w0 wr (t :: ts)) : SepF F w0 wr ts := ⟨h.chg, by have := h.nd; rw [List.flatMap_cons, List.nodup_append] at this; exact this.2.1, fun b hb => h.new b (by rw [List.flatMap_cons]; exact List.mem_append_right _ hb), fun t ht => h.hold t (List.mem_cons_of_mem _ ht)⟩
theorem SepF.own0 (h : SepF F w0 wr ts) (i : Nat) (hi : ts[i]? = some (tsl E e xs v fp)) : SlOwn E e wr xs v fp ∧ fp.Nodup ∧ (∀ b, b ∈ fp → b ∈ F ∨ w0.heap.size ≤ b) ∧ Chg F w0 wr :=
  ⟨h.at_ i hi, h.ndat hi, fun b hb => h.new b (SepF.mem hi hb), h.chg⟩
/-- append, the new element a thing of the list -/
theorem SepF.push (h : SepF F w0 wr ts) (i j : Nat) (hij : i ≠ j) (hi : ts[i]? = some (tsl E e xs v fp)) (hj : ts[j]? = some s) (hb : Below wr.heap.size wr W2) (hx : ∀ W, s.holds W → E.own W x cx s.fp) :
    ∃ l, W2.ownsRow 0 e E.size v xs.length l ∧ ∀ gg cap w1, w1.ownsRow 0 e E.size (.slice (some ⟨gg, 0, none⟩) (xs.length + 1) cap) (xs.length + 1) (l ++ cx) → W2.grownBy w1 v.ownBlock → (v.ownBlock = some gg ∨ gg = W2.heap.size) →
      ∃ fp', SepF F w0 w1 ((ts.set j tnil).set i (tsl E e (xs ++ [x]) (.slice (some ⟨gg, 0, none⟩) (xs.length + 1) cap) fp')) := by
  have h2 := h.step hb
  have ho : SlOwn E e W2 xs v fp := h2.at_ i hi
  have hs := hx _ (h2.at_ j hj)
  obtain ⟨l, k1, k2⟩ := ho.push hs (h2.ndat hi) (h2.ndat hj) (fun b hb hm => h2.apart hi hj hij b hm hb)
  refine ⟨l, k1, fun gg cap w1 g1 g2 g3 => ?_⟩
  obtain ⟨fp', m1, m2, m3⟩ := k2 _ w1 g1 g2 (g3.elim (fun h => .inl h.symm) (fun h => .inr (by rw [h]; rfl)))
  refine ⟨fp', h2.upd2 hij hi hj ?_ m1 m2 (fun b hb => ?_)⟩
  · exact ⟨g2.os, g2.tape, g2.output, g2.size, fun k hk hn => g2.block k hk (fun hh => hn (List.mem_append_left _ (row_in ho hh.symm)))⟩
  · rcases m3 b hb with h | h | h
    · exact .inl h
    · exact .inr (.inl h)
    · exact .inr (.inr (by omega))
/-- append, the new element leads nowhere -/
theorem SepF.push0 (h : SepF F w0 wr ts) (i : Nat) (hi : ts[i]? = some (tsl E e xs v fp)) (hb : Below wr.heap.size wr W2) (hx : E.own W2 x cx []) :
    ∃ l, W2.ownsRow 0 e E.size v xs.length l ∧ ∀ gg cap w1, w1.ownsRow 0 e E.size (.slice (some ⟨gg, 0, none⟩) (xs.length + 1) cap) (xs.length + 1) (l ++ cx) → W2.grownBy w1 v.ownBlock → (v.ownBlock = some gg ∨ gg = W2.heap.size) →
      ∃ fp', SepF F w0 w1 (ts.set i (tsl E e (xs ++ [x]) (.slice (some ⟨gg, 0, none⟩) (xs.length + 1) cap) fp')) := by
  have h2 := h.step hb
  have ho : SlOwn E e W2 xs v fp := h2.at_ i hi
  obtain ⟨l, k1, k2⟩ := ho.push hx (h2.ndat hi) List.nodup_nil (fun b hb => by cases hb)
  refine ⟨l, k1, fun gg cap w1 g1 g2 g3 => ?_⟩
  obtain ⟨fp', m1, m2, m3⟩ := k2 _ w1 g1 g2 (g3.elim (fun h => .inl h.symm) (fun h => .inr (by rw [h]; rfl)))
  refine ⟨fp', h2.upd hi ?_ m1 m2 (fun b hb => ?_)⟩
  · exact ⟨g2.os, g2.tape, g2.output, g2.size, fun k hk hn => g2.block k hk (fun hh => hn (row_in ho hh.symm))⟩
  · rcases m3 b hb with h | h | h
    · exact .inl h
    · cases h
    · exact .inr (by omega)
/-- the inside of element k is changed -/
theorem SepF.putIn {g n c k : Nat} (h : SepF F w0 wr ts) (i : Nat) (hi : ts[i]? = some (tsl E e xs (.slice (some ⟨g, 0, none⟩) n c) fp)) (hk : xs[k]? = some x) :
    ∃ cs fx, E.own wr x cs fx ∧ fx.Nodup ∧ (∀ b, b ∈ fx → b ∈ fp ∧ b ≠ g) ∧ (∀ j u, cs[j]? = some u → wr.cell? ⟨g, k * E.size + j, none⟩ = some u) ∧
      ∀ W x' fx', Chg fx wr W → E.own W x' cs fx' → fx'.Nodup → (∀ b, b ∈ fx' → b ∈ fx) → ∃ fp', SepF F w0 W (ts.set i (tsl E e (xs.set k x') (.slice (some ⟨g, 0, none⟩) n c) fp')) := by
  have h1 : SlOwn E e wr xs (.slice (some ⟨g, 0, none⟩) n c) fp := h.at_ i hi
  obtain ⟨cs, fx, k1, k2, k3, k4, k5⟩ := h1.inner (h.ndat hi) hk
  refine ⟨cs, fx, k1, k2, k3, k4, fun W x' fx' m1 m2 m3 m4 => ?_⟩
  obtain ⟨fp', p1, p2, p3⟩ := k5 W x' fx' m1 m2 m3 m4
  exact ⟨fp', h.upd hi (m1.more fun b hb => (k3 b hb).1) p1 p2 (fun b hb => .inl (p3 b hb))⟩
/-- what block i holds -/
theorem SepF.cell {g k : Nat} {t : TypeId} {cs : List Value} {u : Value} (h : SepF F w0 wr ts) (i : Nat) (hi : ts[i]? = some (tblk g t cs)) (hu : cs[k]? = some u) : wr.cell? ⟨g, k, none⟩ = some u := (show Blk wr g t cs from h.at_ i hi).cell hu
theorem SepF.frz {g k : Nat} {t : TypeId} {cs : List Value} (h : SepF F w0 wr ts) (i : Nat) (hi : ts[i]? = some (tblk g t cs)) : wr.frozen? ⟨g, k, none⟩ = false := (show Blk wr g t cs from h.at_ i hi).frozen k
theorem SepF.blk {g : Nat} {t : TypeId} {cs : List Value} (h : SepF F w0 wr ts) (i : Nat) (hi : ts[i]? = some (tblk g t cs)) : g < wr.heap.size ∧ (g ∈ F ∨ w0.heap.size ≤ g) := ⟨(show Blk wr g t cs from h.at_ i hi).lt, h.new g (SepF.mem hi (by simp [tblk]))⟩
theorem SepF.sl (h : SepF F w0 wr ts) (i : Nat) (hi : ts[i]? = some (tsl E e xs v fp)) : SlOwn E e wr xs v fp := h.at_ i hi
theorem SepF.slnew (h : SepF F w0 wr ts) (i : Nat) (hi : ts[i]? = some (tsl E e xs v fp)) : ∀ b, b ∈ fp → (b ∈ F ∨ w0.heap.size ≤ b) ∧ b < wr.heap.size := fun b hb => ⟨h.new b (SepF.mem hi hb), (show SlOwn E e wr xs v fp from h.at_ i hi).olt b hb⟩
theorem SepF.rowne {g : Nat} {t : TypeId} {cs : List Value} (h : SepF F w0 wr ts) (i j : Nat) (hi : ts[i]? = some (tsl E e xs v fp)) (hj : ts[j]? = some (tblk g t cs)) (hij : i ≠ j) : some g ≠ v.ownBlock := fun hh => h.apart hi hj hij g (row_in (h.sl i hi) hh.symm) (by simp [tblk])
end
end Mm
end Go.Proofs.YtbhmdnjammnlnaaGreatDoor

/-
  More on the list of things that a call may change: at its end, some of them, behind a call that hands back things. No program in sight. No conditions.
-/
namespace Go.Proofs.YtbhmdnjammnlnaaGreatDoor
open Go.RowKit
namespace Mm
section
variable {F : List Nat} {w0 wr W : World} {ts : List Thing} {t a b c d x y : Thing}
theorem SepF.addEnd (h : SepF F w0 wr ts) (hb : Below wr.heap.size wr W) (ht : t.holds W) (hnd : t.fp.Nodup) (hnew : ∀ b, b ∈ t.fp → wr.heap.size ≤ b) : SepF F w0 W (ts ++ [t]) :=
  (h.add hb ht hnd hnew).conv (by simp only [List.flatMap_append, List.flatMap_cons, List.flatMap_nil, List.append_nil]; exact List.perm_append_comm) (fun u hu => by
    rcases List.mem_append.1 hu with hu | hu
    · exact (h.step hb).hold u hu
    · rw [List.mem_singleton.1 hu]; exact ht)
theorem SepF.allocEnd {g : Nat} (h : SepF F w0 wr ts) (hg : wr.heap.size = g) (T : TypeId) (cs : List Value) : SepF F w0 (wr.alloc (.cells cs.toArray T)) (ts ++ [tblk g T cs]) := by
  subst hg
  exact h.addEnd (below_new (Below.refl _ _) _) (Blk.new wr T cs) (by simp [tblk]) (by simp [tblk])
theorem SepF.swapEnd (h : SepF F w0 wr (ts ++ [x, y])) : SepF F w0 wr (ts ++ [y, x]) :=
  h.conv (by simp only [List.flatMap_append, List.flatMap_cons, List.flatMap_nil, List.append_nil]; exact List.Perm.append_left _ List.perm_append_comm) (fun u hu => h.hold u (by
    simp only [List.mem_append, List.mem_cons, List.not_mem_nil, or_false] at hu ⊢
    rcases hu with hu | hu | hu
    · exact .inl hu
    · exact .inr (.inr hu)
    · exact .inr (.inl hu)))
/-- some of the things, by their numbers -/
theorem SepF.sel (h : SepF F w0 wr ts) : ∀ (is : List Nat) {us : List Thing}, is.Nodup → us = is.filterMap (fun i => ts[i]?) → SepF F w0 wr us
  | [], us, _, hu => by subst hu; exact ⟨h.chg, by simp, by simp, by simp⟩
  | i :: is, us, hn, hu => by
    rw [List.nodup_cons] at hn
    have ih := SepF.sel h is (us := is.filterMap (fun i => ts[i]?)) hn.2 rfl
    cases hi : ts[i]? with
    | none => rw [List.filterMap_cons, hi] at hu; rw [hu]; exact ih
    | some t =>
      rw [List.filterMap_cons, hi] at hu
      rw [hu]
      refine ⟨h.chg, ?_, fun b hb => ?_, fun u hu => ?_⟩
      · rw [List.flatMap_cons, List.nodup_append]
        refine ⟨h.ndat hi, ih.nd, fun a ha b hb e => ?_⟩
        subst e
        obtain ⟨s, hs, hb⟩ := List.mem_flatMap.1 hb
        obtain ⟨j, hj, hs⟩ := List.mem_filterMap.1 hs
        exact h.apart hi hs (fun e => hn.1 (e ▸ hj)) a ha hb
      · rw [List.flatMap_cons] at hb
        rcases List.mem_append.1 hb with hb | hb
        · exact h.new b (SepF.mem hi hb)
        · exact ih.new b hb
      · rcases List.mem_cons.1 hu with rfl | hu
        · exact h.at_ i hi
        · exact ih.hold u hu
/-- behind a call that was handed thing i, and hands back things -/
theorem SepF.callAll {us : List Thing} (h : SepF F w0 wr ts) (i : Nat) (hi : ts[i]? = some t) (hS : SepF t.fp wr W us) : SepF F w0 W (ts.set i tnil ++ us) := by
  have h1 := h.upd (t' := ⟨us.flatMap (·.fp), fun w => ∀ u, u ∈ us → u.holds w, fun hh k u hu => u.keep (hh u hu) fun b hb => k b (List.mem_flatMap.2 ⟨u, hu, hb⟩), fun hh b hb => by
    obtain ⟨u, hu, hb⟩ := List.mem_flatMap.1 hb
    exact u.lt (hh u hu) b hb⟩) hi hS.chg hS.hold hS.nd hS.new
  have e1 := (flat_split (·.fp) hi ⟨us.flatMap (·.fp), fun w => ∀ u, u ∈ us → u.holds w, fun hh k u hu => u.keep (hh u hu) fun b hb => k b (List.mem_flatMap.2 ⟨u, hu, hb⟩), fun hh b hb => by
    obtain ⟨u, hu, hb⟩ := List.mem_flatMap.1 hb
    exact u.lt (hh u hu) b hb⟩).2
  have e2 := (flat_split (·.fp) hi tnil).2
  refine h1.conv ?_ (fun u hu => ?_)
  · rw [List.flatMap_append, e1, e2]
    simp only [tnil, List.nil_append, List.append_assoc]
    exact List.Perm.append_left _ List.perm_append_comm
  · rcases List.mem_append.1 hu with hu | hu
    · obtain ⟨k, hk⟩ := List.mem_iff_getElem?.1 hu
      by_cases hik : i = k
      · subst hik
        rw [List.getElem?_set_self (List.getElem?_eq_some_iff.1 hi).1] at hk
        injection hk with hk
        subst hk
        exact trivial
      · refine h1.hold u (List.mem_of_getElem? (i := k) ?_)
        rw [List.getElem?_set_ne hik] at hk ⊢
        exact hk
    · exact hS.hold u hu
theorem SepF.start (w : World) : SepF [] w w [] := ⟨Chg.refl _ _, by simp, by simp, by simp⟩
theorem SepF.bel0 (h : SepF [] w0 wr ts) : Below w0.heap.size w0 wr := Below.chg (Below.refl _ _) h.chg (Nat.le_refl _) (by simp)
end
theorem lt_keep {w w' : World} {b : Nat} (h : b < w.heap.size) (k : w'.heap[b]? = w.heap[b]?) : b < w'.heap.size := by
  rcases Nat.lt_or_ge b w'.heap.size with h3 | h3
  · exact h3
  · rw [Array.getElem?_eq_none h3, Array.getElem?_eq_getElem h] at k
    cases k
/-- data that several variables share -/
def tpool {α : Type} (R : Rep α) (fp : List Nat) (ss : List (α × List Value)) : Thing :=
  ⟨fp, fun w => (∀ b, b ∈ fp → b < w.heap.size) ∧ ∀ p, p ∈ ss → ∃ f, (∀ b, b ∈ f → b ∈ fp) ∧ R.own w p.1 p.2 f,
    fun h k => And.intro (fun b hb => lt_keep (h.1 b hb) (k b hb)) (fun p hp => (h.2 p hp).elim fun f hf => ⟨f, hf.1, R.okeep hf.2 fun b hb => k b (hf.1 b hb)⟩), fun h => h.1⟩
theorem SepF.pool {α : Type} {R : Rep α} {F : List Nat} {w0 wr : World} {ts : List Thing} {fp : List Nat} {ss : List (α × List Value)} (h : SepF F w0 wr ts) (i : Nat) (hi : ts[i]? = some (tpool R fp ss)) {x : α} {cs : List Value} (hx : (x, cs) ∈ ss) : R.at_ wr wr.heap.size x cs := by
  obtain ⟨h1, h2⟩ := h.at_ i hi
  obtain ⟨f, h3, h4⟩ := h2 _ hx
  exact R.weak h4 (R.olt h4)
theorem SepF.pool2 {α : Type} {R : Rep α} {F : List Nat} {w0 wr : World} {ts : List Thing} {fp fx fy : List Nat} {ss ss' : List (α × List Value)} {x y : α} {cx cy : List Value} (h : SepF F w0 wr (tpool R fp ss :: tow R x cx fx :: tow R y cy fy :: ts))
    (hs : ∀ p, p ∈ ss' → p ∈ ss ∨ p = (x, cx) ∨ p = (y, cy)) : SepF F w0 wr (tpool R (fp ++ (fx ++ fy)) ss' :: ts) := by
  have h0 := h.hold _ List.mem_cons_self
  have h1 : R.own wr x cx fx := h.hold (tow R x cx fx) (by simp)
  have h2 : R.own wr y cy fy := h.hold (tow R y cy fy) (by simp)
  refine h.conv (by simp [tpool, tow]) (List.forall_mem_cons.2 ⟨⟨fun b hb => ?_, fun p hp => ?_⟩, fun u hu => h.hold u (by simp [hu])⟩)
  · rcases List.mem_append.1 hb with hb | hb
    · exact h0.1 b hb
    · rcases List.mem_append.1 hb with hb | hb
      · exact R.olt h1 b hb
      · exact R.olt h2 b hb
  · rcases hs p hp with hp | rfl | rfl
    · obtain ⟨f, h3, h4⟩ := h0.2 p hp
      exact ⟨f, fun b hb => List.mem_append_left _ (h3 b hb), h4⟩
    · exact ⟨fx, fun b hb => List.mem_append_right _ (List.mem_append_left _ hb), h1⟩
    · exact ⟨fy, fun b hb => List.mem_append_right _ (List.mem_append_right _ hb), h2⟩
/-- the reading of an owned struct among the things -/
theorem SepF.rd {α : Type} {R : Rep α} {F : List Nat} {w0 wr : World} {ts : List Thing} {x : α} {cs : List Value} {fp : List Nat} (h : SepF F w0 wr ts) (i : Nat) (hi : ts[i]? = some (tow R x cs fp)) : R.at_ wr wr.heap.size x cs := by
  have h1 : R.own wr x cs fp := h.at_ i hi
  exact R.weak h1 (R.olt h1)
end Mm
end Go.Proofs.YtbhmdnjammnlnaaGreatDoor

/-
  slices.Insert with one element, and append of zero values, on slices that the call owns and whose elements are one cell each and lead nowhere. No program in sight. No conditions.
-/
namespace Go.Proofs.YtbhmdnjammnlnaaGreatDoor
open Go.RowKit
namespace Mm
theorem flat_sub {β γ : Type} (f : β → List γ) {us ts : List β} (h : us.Sublist ts) : (us.flatMap f).Sublist (ts.flatMap f) := by
  induction h with
  | slnil => exact List.Sublist.refl _
  | cons a _ ih => rw [List.flatMap_cons]; exact ih.trans (List.sublist_append_right _ _)
  | cons_cons a _ ih => rw [List.flatMap_cons, List.flatMap_cons]; exact (List.Sublist.refl _).append ih
/-- fewer things -/
theorem SepF.sub {F : List Nat} {w0 wr : World} {ts us : List Thing} (h : SepF F w0 wr ts) (hs : us.Sublist ts) : SepF F w0 wr us :=
  ⟨h.chg, h.nd.sublist (flat_sub (·.fp) hs), fun b hb => h.new b ((flat_sub (·.fp) hs).subset hb), fun u hu => h.hold u (hs.subset hu)⟩
/-- elements of one cell that lead nowhere -/
structure Flat1 {α : Type} (E : Rep α) (val : α → Value) : Prop where
  size : E.size = 1
  one : ∀ x, (val x).oneCell' = true
  inv : ∀ {w x cs fx}, E.own w x cs fx → cs = [val x] ∧ fx = [] ∧ ∀ w', E.own w' x [val x] []
theorem flat1_int : Flat1 int (fun x => .int .i64 x) := ⟨rfl, fun _ => rfl, fun h => ⟨h.1, h.2.2, fun _ => ⟨rfl, h.2.1, rfl⟩⟩⟩
theorem flat1_str : Flat1 str (fun x => .string x) := ⟨rfl, fun _ => rfl, fun h => ⟨h.1, h.2.2, fun _ => ⟨rfl, h.2.1, rfl⟩⟩⟩
theorem fm_val {α : Type} (val : α → Value) : ∀ xs : List α, xs.flatMap (fun x => [val x]) = xs.map val
  | [] => rfl
  | a :: t => by rw [List.flatMap_cons, fm_val val t]; rfl
theorem shape_blk {w : World} {g : Nat} {t : TypeId} {cs : List Value} (h : Blk w g t cs) : w.shape? g = some (t, cs.length) := by
  unfold Blk at h
  unfold World.shape?
  rw [h]
  simp
section
variable {α : Type} {E : Rep α} {val : α → Value} {e : TypeId} {w w' : World} {xs : List α} {v : Value} {fp : List Nat} {g n c : Nat}
theorem Flat1.owns (hF : Flat1 E val) (h : SlOwn E e w xs v fp) : w.ownsRow 0 e 1 v xs.length (xs.map val) ∧ fp = v.ownBlock.toList ∧ ∀ x, x ∈ xs → ∀ w', E.own w' x [val x] [] := by
  obtain ⟨es, he, ho, rfl⟩ := h
  have h1 : es = xs.map fun x => ([val x], ([] : List Nat)) := by
    apply List.ext_getElem?
    intro i
    rw [List.getElem?_map]
    rcases Nat.lt_or_ge i xs.length with hi | hi
    · have hx := List.getElem?_eq_getElem hi
      have hy := List.getElem?_eq_getElem (show i < es.length by rw [he.1]; exact hi)
      have h2 := hF.inv (he.2 i _ _ hx hy)
      rw [hx, hy]
      exact congrArg some (Prod.ext h2.1 h2.2.1)
    · rw [List.getElem?_eq_none hi, List.getElem?_eq_none (by rw [he.1]; exact hi)]
      rfl
  have h3 : (xs.map fun x => ([val x], ([] : List Nat))).flatMap (·.1) = xs.map val := by rw [List.flatMap_map]; exact fm_val val xs
  have h4 : (xs.map fun x => ([val x], ([] : List Nat))).flatMap (·.2) = [] := by simp [List.flatMap_map]
  refine ⟨?_, by rw [h1, h4]; simp, fun x hx w' => ?_⟩
  · rw [h1, h3, hF.size] at ho
    exact ho
  · obtain ⟨i, hi, rfl⟩ := List.mem_iff_getElem.1 hx
    exact (hF.inv (he.2 i _ _ (List.getElem?_eq_getElem hi) (List.getElem?_eq_getElem (show i < es.length by rw [he.1]; exact hi)))).2.2 w'
theorem Flat1.row (hF : Flat1 E val) (ho : w.ownsRow 0 e 1 v xs.length (xs.map val)) (hE : ∀ x, x ∈ xs → E.own w x [val x] []) : SlOwn E e w xs v v.ownBlock.toList :=
  SlOwn.of_row (enc := fun x => [val x]) (by
    rw [hF.size, show xs.flatMap (fun x => [val x]) = xs.map val from fm_val val xs]
    exact ho) hE rfl
theorem Flat1.blk (hF : Flat1 E val) (h : SlOwn E e w xs (.slice (some ⟨g, 0, none⟩) n c) fp) : ∃ cur, Blk w g e cur ∧ cur.length = c ∧ cur.take n = xs.map val ∧ n = xs.length ∧ n ≤ c ∧ c ≤ maxLen ∧ fp = [g] := by
  obtain ⟨h1, h2, _⟩ := hF.owns h
  rcases h1.2 with ⟨h3, _⟩ | ⟨g', cap, cur, h3, _, hg, hnc, hcm, hcs, htake⟩
  · simp at h3
  · simp only [Value.slice.injEq, Option.some.injEq, Addr.mk.injEq, and_true] at h3
    obtain ⟨rfl, rfl, rfl⟩ := h3
    refine ⟨cur.toList, by unfold Blk; rw [Array.toArray_toList]; exact hg, by simpa using hcs, by simpa using htake, rfl, hnc, hcm, by rw [h2]; simp [Value.ownBlock]⟩
theorem Flat1.of_blk (hF : Flat1 E val) {cur : List Value} (h : Blk w g e cur) (hl : cur.length = c) (ht : cur.take n = xs.map val) (hn : xs.length = n) (hnc : n ≤ c) (hc : c ≤ maxLen) (hE : ∀ x, x ∈ xs → E.own w x [val x] []) : SlOwn E e w xs (.slice (some ⟨g, 0, none⟩) n c) [g] := by
  subst hn
  exact hF.row ⟨by simp, .inr ⟨g, c, cur.toArray, rfl, Nat.zero_le _, h, hnc, hc, by simpa using hl, by simpa using ht⟩⟩ hE
theorem Flat1.cell (hF : Flat1 E val) (h : SlOwn E e w xs (.slice (some ⟨g, 0, none⟩) n c) fp) {k : Nat} {x : α} (hk : xs[k]? = some x) : w.cell? ⟨g, k, none⟩ = some (val x) := by
  obtain ⟨cur, hb, hcl, ht, hn, hnc, _⟩ := hF.blk h
  have hkn := (List.getElem?_eq_some_iff.1 hk).1
  refine hb.cell ?_
  have h1 : (cur.take n)[k]? = some (val x) := by rw [ht, List.getElem?_map, hk]; rfl
  rw [List.getElem?_take, if_pos (by omega)] at h1
  exact h1
theorem setCells_blk : ∀ (vs : List Value) (w : World) (o : Nat) (cs : List Value), Blk w g e cs → Blk (w.setCells g o vs) g e (setList cs o vs)
  | [], _, _, _, h => h
  | v :: r, _, o, _, h => setCells_blk r _ (o + 1) _ (h.set_ o v)
theorem setCells_chg (g : Nat) : ∀ (vs : List Value) (w : World) (o : Nat), Chg [g] w (w.setCells g o vs)
  | [], w, _ => Chg.refl _ _
  | v :: r, w, o => ((Chg.refl [g] w).setCell (p := ⟨g, o, none⟩) (by simp) v).trans (setCells_chg g r _ (o + 1))
theorem ins_cells {cur ys : List Value} {u : Value} {i : Nat} (ht : cur.take n = ys) (hn : ys.length = n) (hi : i < n) (hroom : n + 1 ≤ cur.length) :
    (setList (setList cur (i + 1) (ys.drop i)) i [u]).take n = Pl.insAt ys i u := by
  apply List.ext_getElem?
  intro j
  rw [Pl.insAt_get _ _ _ (by omega), List.getElem?_take, hn]
  by_cases hj : n ≤ j
  · rw [if_neg (by omega), if_pos hj]
  · rw [if_pos (by omega), if_neg hj, setList_get _ _ _ _ (by rw [setList_len]; simp; omega)]
    by_cases h1 : j < i
    · rw [if_pos h1, if_neg (by omega), setList_get _ _ _ _ (by rw [List.length_drop]; omega), if_neg (by omega), ← ht, List.getElem?_take, if_pos (by omega)]
    · rw [if_neg h1]
      by_cases h2 : j = i
      · subst h2
        rw [if_pos rfl, if_pos (by simp), Nat.sub_self]; rfl
      · rw [if_neg h2, if_neg (by simp; omega), setList_get _ _ _ _ (by rw [List.length_drop]; omega), if_pos (by rw [List.length_drop]; omega), List.getElem?_drop]
        congr 1; omega
theorem ins_cells' {rest ys : List Value} {z u : Value} {i k : Nat} (hn : ys.length = n) (hi : i < n) (hk : (ys.take i ++ List.replicate (n + 1 - i) z ++ rest).length = k) :
    (setList (setList (ys.take i ++ List.replicate (n + 1 - i) z ++ rest) i [u]) (i + 1) (ys.drop i)).take n = Pl.insAt ys i u := by
  have hl : n + 1 ≤ (ys.take i ++ List.replicate (n + 1 - i) z ++ rest).length := by
    rw [List.length_append, List.length_append, List.length_take, List.length_replicate]; omega
  apply List.ext_getElem?
  intro j
  rw [Pl.insAt_get _ _ _ (by omega), List.getElem?_take, hn]
  by_cases hj : n ≤ j
  · rw [if_neg (by omega), if_pos hj]
  · rw [if_pos (by omega), if_neg hj, setList_get _ _ _ _ (by rw [setList_len, List.length_drop]; omega)]
    by_cases h1 : j < i
    · rw [if_pos h1, if_neg (by omega), setList_get _ _ _ _ (by simp only [List.length_singleton]; omega), if_neg (by omega), List.getElem?_append_left (by rw [List.length_append, List.length_take, List.length_replicate]; omega), List.getElem?_append_left (by rw [List.length_take]; omega), List.getElem?_take, if_pos h1]
    · rw [if_neg h1]
      by_cases h2 : j = i
      · subst h2
        rw [if_pos rfl, if_neg (by omega), setList_get _ _ _ _ (by simp only [List.length_singleton]; omega), if_pos (by simp), Nat.sub_self]; rfl
      · rw [if_neg h2, if_pos (by rw [List.length_drop]; omega), List.getElem?_drop]
        congr 1; omega
/-- behind slices.Insert of one element, where there was room: the slice cut back to its old length -/
theorem ins_shift {F : List Nat} {w0 wr : World} {ts : List Thing} {i k : Nat} {x : α} (hF : Flat1 E val) (h : SepF F w0 wr ts) (hi : ts[i]? = some (tsl E e xs (.slice (some ⟨g, 0, none⟩) n c) fp)) (hk : k < n) (hroom : n + 1 ≤ c) (hx : ∀ w, E.own w x [val x] []) {off1 off2 : Nat} (h1 : k + 1 = off1) (h2 : k = off2) :
    SepF F w0 ((wr.drew.setCells g off1 ((xs.map val).drop k)).setCells g off2 [val x]) (ts.set i (tsl E e (Pl.insAt xs k x) (.slice (some ⟨g, 0, none⟩) n c) fp)) := by
  subst h1; subst h2
  have hs : SlOwn E e wr xs (.slice (some ⟨g, 0, none⟩) n c) fp := h.at_ i hi
  obtain ⟨cur, hb, hcl, ht, hn, hnc, hcm, rfl⟩ := hF.blk hs
  have hxs := (hF.owns hs).2.2
  have hd : Blk wr.drew g e cur := hb
  have hb2 := setCells_blk [val x] _ k _ (setCells_blk ((xs.map val).drop k) _ (k + 1) _ hd)
  refine h.upd hi (((Chg.of_below (Below.refl wr.heap.size wr).drew).trans (setCells_chg g _ _ _)).trans (setCells_chg g _ _ _)) (t' := tsl E e (Pl.insAt xs k x) (.slice (some ⟨g, 0, none⟩) n c) [g]) ?_ (by simp [tsl]) (fun b hb => .inl hb)
  refine hF.of_blk hb2 (by rw [setList_len, setList_len, hcl]) ?_ (by rw [Pl.insAt_len _ _ _ (by omega)]; omega) hnc hcm (fun y hy => ?_)
  · rw [ins_cells ht (by rw [List.length_map]; omega) hk (by omega), Pl.insAt_map]
  · rcases Pl.insAt_mem hy with hy | rfl
    · exact hxs y hy _
    · exact hx _
/-- the same, where it has moved -/
theorem ins_grow {F : List Nat} {w0 wr : World} {ts : List Thing} {i k : Nat} {x : α} {z : Value} {ROW : Array Value} {G : Nat} (hF : Flat1 E val) (h : SepF F w0 wr ts) (hi : ts[i]? = some (tsl E e xs (.slice (some ⟨g, 0, none⟩) n c) fp)) (hk : k < n) (hx : ∀ w, E.own w x [val x] []) {off1 off2 : Nat} (h1 : k = off1) (h2 : k + 1 = off2) (hG : n + 1 ≤ G) (hGm : G ≤ maxLen)
    (hR : ROW = ((xs.map val).take k).toArray ++ Builtin.zeroCells #[z] (n + 1 - k) ++ Builtin.zeroCells #[z] (G - (n + 1))) :
    SepF F w0 ((((wr.alloc (.cells ROW e)).drew.setCells wr.heap.size off1 [val x]).drew).setCells wr.heap.size off2 ((xs.map val).drop k)) (ts.set i (tsl E e (Pl.insAt xs k x) (.slice (some ⟨wr.heap.size, 0, none⟩) n G) [wr.heap.size])) := by
  subst h1; subst h2
  have hs : SlOwn E e wr xs (.slice (some ⟨g, 0, none⟩) n c) fp := h.at_ i hi
  obtain ⟨cur, hb, hcl, ht, hn, hnc, hcm, rfl⟩ := hF.blk hs
  have hxs := (hF.owns hs).2.2
  have hz : ∀ m, (Builtin.zeroCells #[z] m).toList = List.replicate m z := fun m => by
    apply List.ext_getElem?
    intro j
    by_cases hj : j < m <;> simp [Builtin.zeroCells, hj, Nat.mod_one]
  have hRl : ROW.toList = (xs.map val).take k ++ List.replicate (n + 1 - k) z ++ List.replicate (G - (n + 1)) z := by
    rw [hR]; simp [hz]
  have hRs : ROW.toList.length = G := by
    rw [hRl]; simp; omega
  have hd : Blk (wr.alloc (.cells ROW e)).drew wr.heap.size e ROW.toList := by
    have := Blk.new wr e ROW.toList
    rw [Array.toArray_toList] at this
    exact this
  have hb1 : Blk (((wr.alloc (.cells ROW e)).drew.setCells wr.heap.size k [val x]).drew) wr.heap.size e (setList ROW.toList k [val x]) := setCells_blk [val x] _ k _ hd
  have hb2 := setCells_blk ((xs.map val).drop k) _ (k + 1) _ hb1
  have hch : Below wr.heap.size wr ((((wr.alloc (.cells ROW e)).drew.setCells wr.heap.size k [val x]).drew).setCells wr.heap.size (k + 1) ((xs.map val).drop k)) := by
    have q1 : Below wr.heap.size wr (wr.alloc (.cells ROW e)).drew := (below_new (Below.refl _ _) _).drew
    have q2 := Below.chg q1 (setCells_chg wr.heap.size [val x] _ k) q1.size (fun b hb => by rw [List.mem_singleton.1 hb]; exact Nat.le_refl _)
    have q3 := Below.chg q2.drew (setCells_chg wr.heap.size ((xs.map val).drop k) _ (k + 1)) q2.drew.size (fun b hb => by rw [List.mem_singleton.1 hb]; exact Nat.le_refl _)
    exact q3
  refine h.upd hi (Chg.of_below hch) (t' := tsl E e (Pl.insAt xs k x) (.slice (some ⟨wr.heap.size, 0, none⟩) n G) [wr.heap.size]) ?_ (by simp [tsl]) (fun b hb => .inr (by simp [tsl] at hb; omega))
  refine hF.of_blk hb2 (by rw [setList_len, setList_len, hRs]) ?_ (by rw [Pl.insAt_len _ _ _ (by omega)]; omega) (by omega) hGm (fun y hy => ?_)
  · rw [hRl, ins_cells' (by rw [List.length_map]; omega) hk rfl, Pl.insAt_map]
  · rcases Pl.insAt_mem hy with hy | rfl
    · exact hxs y hy _
    · exact hx _
end
section
variable {P : Program} (w : World)
/-- append(s, make([]T, k)...) on a slice that the call owns -/
theorem run_append_own_zeros (t tn ty e : TypeId) (i : TypeInfo) (z : Value) (bytes : Nat) (ht : P.underlying t = some (.slice e)) (htn : P.underlying tn = some (.int .i64)) (hi : P.info? e = some i) (hz : i.zero = some z) (hsize : i.size = 1) (hby : i.bytes = bytes) (hzs : z.cells = #[z]) (hz1 : z.oneCell' = true)
    (v : Value) (n : Nat) (xs : List Value) (hown : w.ownsRow 0 e 1 v n xs) (k : Nat) (hnk : n + k ≤ maxLen) (hbytes : (n + k) * bytes ≤ 140737488355328) :
    ∃ v' w', (Builtin.append_ #[t, tn] ty #[v, .int .i64 k]).run P w = .ok v' w' ∧ w'.ownsRow 0 e 1 v' (n + k) (xs ++ List.replicate k z) ∧ w.grownBy w' v.ownBlock ∧ (v'.ownBlock = v.ownBlock ∨ v'.ownBlock = some w.heap.size) := by
  subst hby
  have hzc : ∀ m, (Builtin.zeroCells z.cells m).toList = List.replicate m z := fun m => by
    rw [hzs]
    apply List.ext_getElem?
    intro j
    by_cases hj : j < m <;> simp [Builtin.zeroCells, hj, Nat.mod_one]
  have hlen : (xs ++ List.replicate k z).length = n + k := by rw [List.length_append, hown.1, List.length_replicate]; omega
  have hm63 : n + k ≤ 9223372036854775807 := by unfold maxLen at hnk; omega
  have hkb : k * i.bytes ≤ 281474976710656 := by
    have := Nat.mul_le_mul_right i.bytes (show k ≤ n + k by omega)
    omega
  have grown : ∀ (old : Nat) (row : Option Nat),
      (w.drew.alloc (.cells (xs.toArray ++ Builtin.zeroCells z.cells k ++ Builtin.zeroCells z.cells (grownCap w (n + k) old e - (n + k))) e)).ownsRow 0 e 1
        (.slice (some ⟨w.heap.size, 0, none⟩) (n + k) (grownCap w (n + k) old e)) (n + k) (xs ++ List.replicate k z) ∧
      w.grownBy (w.drew.alloc (.cells (xs.toArray ++ Builtin.zeroCells z.cells k ++ Builtin.zeroCells z.cells (grownCap w (n + k) old e - (n + k))) e)) row := by
    intro old row
    have hge := grownCap_ge w (n + k) old e
    have hcm : grownCap w (n + k) old e ≤ maxLen := grownCap_le_maxLen w (n + k) old e hnk
    refine ⟨⟨by rw [hlen]; omega, .inr ⟨w.heap.size, _, _, rfl, Nat.zero_le _, heap_alloc_new w.drew _, hge, hcm, ?_, ?_⟩⟩, ⟨rfl, rfl, rfl, by simp, fun k hk _ => heap_alloc_old w.drew _ hk⟩⟩
    · have := hown.1
      simp only [Array.size_append, List.size_toArray, size_zeroCells, hzs, Nat.mul_one, List.size_toArray]
      simp
      omega
    · simp only [Array.toList_append, hzc]
      rw [Nat.mul_one, ← hlen]
      exact List.take_left
  rcases hown.2 with ⟨rfl, rfl⟩ | ⟨g, cap, cur, rfl, hbg, hg, hnc, hcm, hcs, htake⟩
  · have hx : xs = [] := List.eq_nil_of_length_eq_zero (by simpa using hown.1)
    subst hx
    rcases Nat.eq_zero_or_pos k with rfl | hk
    · refine ⟨_, w, ?_, by simpa using World.ownsRow_nil w 0 e 1, ⟨rfl, rfl, rfl, Nat.le_refl _, fun _ _ _ => rfl⟩, .inl rfl⟩
      have hw : IntKind.i64.wrap 0 = 0 := by decide
      simp [Builtin.append_, run_underlying ht, run_underlying htn, sizeOf, typeInfo, hi, asInt, asIntOf, hw]
    · have hr := Lib.run_append_nil_zeros (P := P) w t tn ty e i z .i64 .i64 ht htn hi hz k hk (by omega) (by omega) hkb
      obtain ⟨g1, g2⟩ := grown 0 none
      simp only [Nat.zero_add] at g1 g2
      refine ⟨_, _, hr, ?_, ?_, .inr rfl⟩
      · have : (([] : List Value).toArray ++ Builtin.zeroCells z.cells k) = Builtin.zeroCells z.cells k := by simp
        rw [this] at g1
        rw [Nat.zero_add]
        exact g1
      · have : (([] : List Value).toArray ++ Builtin.zeroCells z.cells k) = Builtin.zeroCells z.cells k := by simp
        rw [this] at g2
        exact g2
  · have hw : IntKind.i64.wrap (k : Int) = k := by rw [IntKind.wrap_i64]; omega
    have hcl : cur.toList.length = cap := by rw [Array.length_toList, hcs, Nat.mul_one]
    have hxl : xs.length = n := by rw [hown.1, Nat.mul_one]
    rcases Nat.lt_or_ge cap (n + k) with hlt | hroom
    · have hold : (Builtin.firstCells i.size n (.slice (some ⟨g, 0, none⟩) n cap)).run P w.drew = .ok xs.toArray w.drew := by
        rw [hsize]
        exact run_firstCells_some w.drew 1 n ⟨g, 0, none⟩ n cap xs (by rw [hxl]; omega) (fun j v hj => by
          have := hown.cells (g := g) rfl j v hj
          exact this)
      have hr := Lib.run_append_grow_zeros (P := P) w t tn ty e i z .i64 .i64 ht htn hi hz (some ⟨g, 0, none⟩) n cap xs hold k (by omega) (by omega) hlt (by omega) hkb (growslice_fits hlt hbytes)
      obtain ⟨g1, g2⟩ := grown cap (some g)
      exact ⟨_, _, hr, g1, g2, .inr rfl⟩
    · rcases Nat.eq_zero_or_pos k with rfl | hk
      · refine ⟨.slice (some ⟨g, 0, none⟩) (n + 0) cap, w, ?_, by simpa using hown, ⟨rfl, rfl, rfl, Nat.le_refl _, fun _ _ _ => rfl⟩, .inl rfl⟩
        have hw0 : IntKind.i64.wrap 0 = 0 := by decide
        simp [Builtin.append_, run_underlying ht, run_underlying htn, sizeOf, typeInfo, hi, asInt, asIntOf, hw0, hnc, storeCells]
      · have hst := run_storeCells_at P g n e (List.replicate k z) 0 cur w hg (by rw [List.length_replicate]; have := hcs; omega) (fun v hv => by rw [(List.mem_replicate.1 hv).2]; exact hz1)
        simp only [Nat.add_zero, List.length_replicate] at hst
        have hks : ¬ (k = 0) := by omega
        have hneg : ¬ ((k : Int) < 0) := by omega
        have h48i : ¬ (281474976710656 < (k : Int) * (i.bytes : Int)) := by
          rw [← Int.natCast_mul]
          omega
        have hr : (Builtin.append_ #[t, tn] ty #[.slice (some ⟨g, 0, none⟩) n cap, .int .i64 k]).run P w = .ok (.slice (some ⟨g, 0, none⟩) (n + k) cap) (w.setRow g (cur.toList.take n ++ List.replicate k z ++ cur.toList.drop (n + k)).toArray) := by
          simp [Builtin.append_, run_underlying ht, run_underlying htn, sizeOf, typeInfo, zeroValue, hi, hz, asInt, asIntOf, hw, hneg, h48i, hsize, hks, hroom, Addr.add_lit, hzc, hst]
        refine ⟨_, _, hr, ⟨by rw [hlen]; omega, .inr ⟨g, cap, _, rfl, hbg, setRow_heap w g cur _ e _ hg, hroom, hcm, ?_, ?_⟩⟩, ⟨rfl, rfl, rfl, by simp, fun k hk hn => setRow_other w g k _ (fun e => hn (by simp [e, Value.ownBlock]))⟩, .inl rfl⟩
        · simp only [List.size_toArray, List.length_append, List.length_take, List.length_drop, List.length_replicate, hcl]
          omega
        · rw [Nat.mul_one] at htake ⊢
          show ((cur.toList.take n ++ List.replicate k z) ++ cur.toList.drop (n + k)).take (n + k) = _
          rw [htake, ← hlen]
          exact List.take_left
end
theorem SepF.perm {F : List Nat} {w0 wr : World} {ts us : List Thing} (h : SepF F w0 wr ts) (hp : us.Perm ts) : SepF F w0 wr us :=
  h.conv (List.Perm.flatMap_right _ hp) fun u hu => h.hold u (hp.mem_iff.1 hu)
/-- the third thing in front -/
theorem SepF.front3 {F : List Nat} {w0 wr : World} {ts : List Thing} {a b c : Thing} (h : SepF F w0 wr (a :: b :: c :: ts)) : SepF F w0 wr (c :: a :: b :: ts) :=
  h.perm (List.perm_middle (l₁ := [a, b])).symm
/-- append of zero values, on one of the things -/
theorem SepF.zeros {P : Program} {α : Type} {E : Rep α} {val : α → Value} {F : List Nat} {w0 w : World} {ts : List Thing} {i : Nat} {xs : List α} {v : Value} {fp : List Nat} {z0 : α} (hF : Flat1 E val) (h : SepF F w0 w ts) (t tn ty e : TypeId) (ii : TypeInfo) (z : Value) (bytes : Nat) (hi : ts[i]? = some (tsl E e xs v fp)) (ht : P.underlying t = some (.slice e)) (htn : P.underlying tn = some (.int .i64)) (hin : P.info? e = some ii) (hz : ii.zero = some z) (hsize : ii.size = 1) (hby : ii.bytes = bytes) (hzs : z.cells = #[z]) (hz1 : z.oneCell' = true)
    (hv : val z0 = z) (hz0 : ∀ w, E.own w z0 [z] []) (k : Nat) (hnk : xs.length + k ≤ maxLen) (hbytes : (xs.length + k) * bytes ≤ 140737488355328) :
    ∃ v' w' fp', (Builtin.append_ #[t, tn] ty #[v, .int .i64 k]).run P w = .ok v' w' ∧ SepF F w0 w' (ts.set i (tsl E e (xs ++ List.replicate k z0) v' fp')) := by
  have hs : SlOwn E e w xs v fp := h.at_ i hi
  obtain ⟨ho, hfp, hx⟩ := hF.owns hs
  obtain ⟨v', w', h1, h2, h3, h4⟩ := run_append_own_zeros (P := P) w (ty := ty) t tn e ii z bytes ht htn hin hz hsize hby hzs hz1 v _ _ ho k hnk hbytes
  refine ⟨v', w', v'.ownBlock.toList, h1, h.upd hi ⟨h3.os, h3.tape, h3.output, h3.size, fun b hb hn => h3.block b hb (fun e => hn (by rw [hfp]; show b ∈ v.ownBlock.toList; rw [← e]; simp))⟩ (t' := tsl E e (xs ++ List.replicate k z0) v' v'.ownBlock.toList) ?_ (by simp only [tsl]; cases v'.ownBlock <;> simp) (fun b hb => ?_)⟩
  · refine hF.row ?_ (fun x hm => ?_)
    · rw [List.length_append, List.length_replicate, List.map_append, List.map_replicate, hv]
      exact h2
    · rcases List.mem_append.1 hm with hm | hm
      · exact hx x hm _
      · rw [(List.mem_replicate.1 hm).2, hv]; exact hz0 _
  · simp only [tsl] at hb ⊢
    rw [hfp]
    rcases h4 with h4 | h4
    · rw [h4] at hb; exact .inl hb
    · rw [h4] at hb; simp at hb; exact .inr (by omega)
end Mm
end Go.Proofs.YtbhmdnjammnlnaaGreatDoor

/-
  slices.Insert at elements of several cells: the rows before and behind, and what an owned slice is then. No program in sight. No conditions.
-/
namespace Go.Proofs.YtbhmdnjammnlnaaGreatDoor
open Go.RowKit
namespace Mm
section
variable {P : Program}
/-- copy, at elements of s cells: all is read before anything is written -/
theorem run_copy_k (w : World) (dT sT ty elem : TypeId) (s b o dLen dCap : Nat) (a : Addr) (sLen sCap : Nat) (cs : List Value)
    (hu : P.underlying dT = some (.slice elem)) (hs : (P.info? elem).map (·.size) = some s) (hn : cs.length = Nat.min sLen dLen * s)
    (hsrc : ∀ j v, cs[j]? = some v → w.cell? (a.add j) = some v) (hc : ∀ j, j < cs.length → (w.cell? ⟨b, o + j, none⟩).isSome = true) (hf : ∀ j, j < cs.length → w.frozen? ⟨b, o + j, none⟩ = false) (h1 : ∀ v ∈ cs, v.oneCell' = true) :
    (Builtin.copy_ #[dT, sT] ty #[.slice (some ⟨b, o, none⟩) dLen dCap, .slice (some a) sLen sCap]).run P w = .ok (goInt (Nat.min sLen dLen)) (w.setCells b o cs) := by
  have hl := run_loadCells_list (P := P) w a cs hsrc
  have hst := run_storeCells_cells (P := P) b o cs 0 w (by simpa using hc) (by simpa using hf) h1
  cases hq : P.info? elem with
  | none => simp [hq] at hs
  | some i =>
    have hi : i.size = s := by simpa [hq] using hs
    simp [Builtin.copy_, run_underlying hu, Builtin.lenOf, Builtin.firstCells, sizeOf, typeInfo, hq, hi, ← hn, hl, hst]
end
theorem ins_rows {cur cells ct : List Value} {N K S : Nat} (ht : cur.take N = cells) (hl : cells.length = N) (hK : K ≤ N) (hS : ct.length = S) (hroom : N + S ≤ cur.length) :
    (setList (setList cur (K + S) (cells.drop K)) K ct).take (N + S) = cells.take K ++ ct ++ cells.drop K := by
  apply List.ext_getElem?
  intro j
  rw [List.getElem?_take]
  by_cases hj : j < N + S
  · rw [if_pos hj, setList_get _ _ _ _ (by rw [setList_len, hS]; omega), setList_get _ _ _ _ (by rw [List.length_drop, hl]; omega), List.length_drop, hl, hS]
    by_cases h1 : j < K
    · rw [if_neg (by omega), if_neg (by omega), List.append_assoc, List.getElem?_append_left (by rw [List.length_take, hl]; omega), List.getElem?_take, if_pos h1, ← ht, List.getElem?_take, if_pos (by omega)]
    · by_cases h2 : j < K + S
      · rw [if_pos ⟨by omega, h2⟩, List.append_assoc, List.getElem?_append_right (by rw [List.length_take, hl]; omega), List.length_take, hl, Nat.min_eq_left hK, List.getElem?_append_left (by omega)]
      · rw [if_neg (by omega), if_pos (by omega), List.getElem?_append_right (by rw [List.length_append, List.length_take, hl]; omega), List.length_append, List.length_take, hl, Nat.min_eq_left hK, hS]
  · rw [if_neg hj, List.getElem?_eq_none (by rw [List.length_append, List.length_append, List.length_take, List.length_drop, hl, hS]; omega)]
theorem ins_rows' {cur cells ct : List Value} {N K S : Nat} (ht : cur.take K = cells.take K) (hl : cells.length = N) (hK : K ≤ N) (hS : ct.length = S) (hroom : N + S ≤ cur.length) :
    (setList (setList cur K ct) (K + S) (cells.drop K)).take (N + S) = cells.take K ++ ct ++ cells.drop K := by
  apply List.ext_getElem?
  intro j
  rw [List.getElem?_take]
  by_cases hj : j < N + S
  · rw [if_pos hj, setList_get _ _ _ _ (by rw [setList_len, List.length_drop, hl]; omega), setList_get _ _ _ _ (by rw [hS]; omega), List.length_drop, hl, hS]
    by_cases h1 : j < K
    · have h2 : cur[j]? = (cells.take K)[j]? := by rw [← ht, List.getElem?_take, if_pos h1]
      rw [if_neg (by omega), if_neg (by omega), List.append_assoc, List.getElem?_append_left (by rw [List.length_take, hl]; omega), h2]
    · by_cases h2 : j < K + S
      · rw [if_neg (by omega), if_pos ⟨by omega, h2⟩, List.append_assoc, List.getElem?_append_right (by rw [List.length_take, hl]; omega), List.length_take, hl, Nat.min_eq_left hK, List.getElem?_append_left (by omega)]
      · rw [if_pos (by omega), List.getElem?_append_right (by rw [List.length_append, List.length_take, hl]; omega), List.length_append, List.length_take, hl, Nat.min_eq_left hK, hS]
  · rw [if_neg hj, List.getElem?_eq_none (by rw [List.length_append, List.length_append, List.length_take, List.length_drop, hl, hS]; omega)]
/-- one element among the others, at k -/
def insertAt {α : Type} (l : List α) (k : Nat) (x : α) : List α := l.take k ++ x :: l.drop k
theorem insertAt_len {α : Type} (l : List α) (k : Nat) (x : α) : (insertAt l k x).length = l.length + 1 := by
  unfold insertAt
  rw [List.length_append, List.length_cons, ← List.take_append_drop k l, List.length_append]
  simp; omega
theorem insertAt_map {α β : Type} (f : α → β) (l : List α) (k : Nat) (x : α) : (insertAt l k x).map f = insertAt (l.map f) k (f x) := by
  unfold insertAt
  rw [List.map_append, List.map_take, List.map_cons, List.map_drop]
theorem rowsMap_take {β γ : Type} (f : β → List γ) (s : Nat) : ∀ (l : List β) (k : Nat), (∀ y ∈ l, (f y).length = s) → (l.take k).flatMap f = (l.flatMap f).take (k * s)
  | [], k, _ => by simp
  | z :: t, 0, _ => by simp
  | z :: t, k + 1, h => by
    have hz := h z (by simp)
    have e0 : (k + 1) * s = s + k * s := by rw [Nat.add_mul]; omega
    have e1 : (f z).take (s + k * s) = f z := List.take_of_length_le (by omega)
    rw [List.take_succ_cons, List.flatMap_cons, List.flatMap_cons, rowsMap_take f s t k (fun y hy => h y (by simp [hy])), List.take_append, hz, e0, e1, Nat.add_sub_cancel_left]
theorem rowsMap_drop {β γ : Type} (f : β → List γ) (s : Nat) : ∀ (l : List β) (k : Nat), (∀ y ∈ l, (f y).length = s) → (l.drop k).flatMap f = (l.flatMap f).drop (k * s)
  | [], k, _ => by simp
  | z :: t, 0, _ => by simp
  | z :: t, k + 1, h => by
    have hz := h z (by simp)
    have e0 : (k + 1) * s = s + k * s := by rw [Nat.add_mul]; omega
    have e1 : (f z).drop (s + k * s) = [] := List.drop_of_length_le (by omega)
    rw [List.drop_succ_cons, List.flatMap_cons, rowsMap_drop f s t k (fun y hy => h y (by simp [hy])), List.drop_append, hz, e0, e1, Nat.add_sub_cancel_left, List.nil_append]
theorem insertAt_flat {β γ : Type} (f : β → List γ) (s : Nat) (l : List β) (k : Nat) (x : β) (h : ∀ y ∈ l, (f y).length = s) : (insertAt l k x).flatMap f = (l.flatMap f).take (k * s) ++ f x ++ (l.flatMap f).drop (k * s) := by
  unfold insertAt
  rw [List.flatMap_append, List.flatMap_cons, rowsMap_take f s l k h, rowsMap_drop f s l k h, List.append_assoc]
theorem insertAt_get {α : Type} {l : List α} {k i : Nat} {x y : α} (hk : k ≤ l.length) (h : (insertAt l k x)[i]? = some y) : (i < k ∧ l[i]? = some y) ∨ (i = k ∧ y = x) ∨ (k < i ∧ l[i - 1]? = some y) := by
  unfold insertAt at h
  by_cases h1 : i < k
  · rw [List.getElem?_append_left (by rw [List.length_take]; omega), List.getElem?_take, if_pos h1] at h
    exact .inl ⟨h1, h⟩
  · rw [List.getElem?_append_right (by rw [List.length_take]; omega), List.length_take, Nat.min_eq_left hk] at h
    by_cases h2 : i = k
    · subst h2
      rw [Nat.sub_self] at h
      exact .inr (.inl ⟨rfl, by simpa using h.symm⟩)
    · rw [show i - k = (i - k - 1) + 1 by omega, List.getElem?_cons_succ, List.getElem?_drop, show k + (i - k - 1) = i - 1 by omega] at h
      exact .inr (.inr ⟨by omega, h⟩)
theorem insertAt_perm {α : Type} (l : List α) (k : Nat) (x : α) : (insertAt l k x).Perm (x :: l) := by
  unfold insertAt
  refine (List.perm_middle).trans ?_
  rw [List.take_append_drop]
section
variable {α : Type} {E : Rep α} {e : TypeId} {w w' : World} {xs : List α} {v v' : Value} {fp : List Nat}
/-- slices.Insert(out, k, x): what its law asks, and what its answer is worth -/
theorem SlOwn.insert (h : SlOwn E e w xs v fp) {k : Nat} (hk : k ≤ xs.length) {x : α} {cx : List Value} {fx : List Nat} (hx : E.own w x cx fx) (hnd : fp.Nodup) (hxd : fx.Nodup) (hdis : ∀ b, b ∈ fx → b ∉ fp) :
    ∃ l, w.ownsRow 0 e E.size v xs.length l ∧ (∀ u ∈ l, u.oneCell' = true) ∧ ∀ v' w', w'.ownsRow 0 e E.size v' (xs.length + 1) (l.take (k * E.size) ++ cx ++ l.drop (k * E.size)) → w.grownBy w' v.ownBlock → (v'.ownBlock = v.ownBlock ∨ ∀ g, v'.ownBlock = some g → w.heap.size ≤ g) →
      ∃ fp', SlOwn E e w' (insertAt xs k x) v' fp' ∧ fp'.Nodup ∧ ∀ b, b ∈ fp' → b ∈ fp ∨ b ∈ fx ∨ w.heap.size ≤ b := by
  have hlt := h.olt
  have hxlt := E.olt hx
  obtain ⟨es, he, ho, rfl⟩ := h
  refine ⟨_, ho, fun u hu => ?_, fun v' w' ho' hg hat => ?_⟩
  · obtain ⟨y, hy, hu⟩ := List.mem_flatMap.1 hu
    obtain ⟨z, _, hz⟩ := he.mem hy
    exact E.one hz u hu
  have hkeep : ∀ b, b ∈ es.flatMap (·.2) → w'.heap[b]? = w.heap[b]? := fun b hb => hg.block b (hlt b (List.mem_append_right _ hb)) (fun hv => by
    rw [List.nodup_append] at hnd
    exact hnd.2.2 b (by rw [← hv]; simp) b hb rfl)
  have hkx : ∀ b, b ∈ fx → w'.heap[b]? = w.heap[b]? := fun b hb => hg.block b (hxlt b hb) (fun hv => hdis b hb (List.mem_append_left _ (by rw [← hv]; simp)))
  have hke : k ≤ es.length := by rw [he.1]; exact hk
  have hp : ((insertAt es k (cx, fx)).flatMap (·.2)).Perm (fx ++ es.flatMap (·.2)) := by
    have := (insertAt_perm es k (cx, fx)).flatMap_right (fun y => y.2)
    rwa [List.flatMap_cons] at this
  refine ⟨_, ⟨insertAt es k (cx, fx), ⟨by rw [insertAt_len, insertAt_len, he.1], fun i y z hy hz => ?_⟩, ?_, rfl⟩, ?_, ?_⟩
  · rcases insertAt_get hk hy with ⟨h1, h2⟩ | ⟨h1, h2⟩ | ⟨h1, h2⟩
    · rcases insertAt_get hke hz with ⟨g1, g2⟩ | ⟨g1, g2⟩ | ⟨g1, g2⟩
      · exact E.okeep (he.2 i y z h2 g2) fun b hb => hkeep b (List.mem_flatMap.2 ⟨z, List.mem_of_getElem? g2, hb⟩)
      · omega
      · omega
    · rcases insertAt_get hke hz with ⟨g1, g2⟩ | ⟨g1, g2⟩ | ⟨g1, g2⟩
      · omega
      · subst h2; subst g2
        exact E.okeep hx hkx
      · omega
    · rcases insertAt_get hke hz with ⟨g1, g2⟩ | ⟨g1, g2⟩ | ⟨g1, g2⟩
      · omega
      · omega
      · exact E.okeep (he.2 _ y z h2 g2) fun b hb => hkeep b (List.mem_flatMap.2 ⟨z, List.mem_of_getElem? g2, hb⟩)
  · rw [insertAt_len, insertAt_flat (·.1) E.size es k (cx, fx) he.len]
    exact ho'
  · have hvn : ∀ b, b ∈ v'.ownBlock.toList → b ∉ es.flatMap (·.2) ∧ b ∉ fx := fun b hb => by
      rcases hat with hat | hat
      · rw [hat] at hb
        rw [List.nodup_append] at hnd
        exact ⟨fun hm => hnd.2.2 b hb b hm rfl, fun hm => hdis b hm (List.mem_append_left _ hb)⟩
      · have hb' := hat b (by simpa using hb)
        exact ⟨fun hm => by have := hlt _ (List.mem_append_right _ hm); omega, fun hm => by have := hxlt _ hm; omega⟩
    have h1 : v'.ownBlock.toList.Nodup := by cases v'.ownBlock <;> simp
    rw [List.nodup_append] at hnd ⊢
    refine ⟨h1, ?_, fun a ha b hb hab => ?_⟩
    · rw [hp.nodup_iff, List.nodup_append]
      exact ⟨hxd, hnd.2.1, fun a ha b hb hab => by
        subst hab
        exact hdis a ha (List.mem_append_right _ hb)⟩
    · subst hab
      rcases List.mem_append.1 (hp.mem_iff.1 hb) with hb | hb
      · exact (hvn a ha).2 hb
      · exact (hvn a ha).1 hb
  · intro b hb
    rcases List.mem_append.1 hb with hb | hb
    · rcases hat with hat | hat
      · rw [hat] at hb
        exact .inl (List.mem_append_left _ hb)
      · exact .inr (.inr (hat b (by simpa using hb)))
    · rcases List.mem_append.1 (hp.mem_iff.1 hb) with hb | hb
      · exact .inr (.inl hb)
      · exact .inl (List.mem_append_right _ hb)
end
section
variable {F : List Nat} {w0 wr W2 : World} {ts : List Thing} {s : Thing} {i j : Nat} {α : Type} {E : Rep α} {e : TypeId} {xs : List α} {v : Value} {fp : List Nat} {x : α} {cx : List Value}
/-- slices.Insert, the new element a thing of the list -/
theorem SepF.insert (h : SepF F w0 wr ts) (i j : Nat) (hij : i ≠ j) {k : Nat} (hi : ts[i]? = some (tsl E e xs v fp)) (hk : k ≤ xs.length) (hj : ts[j]? = some s) (hb : Below wr.heap.size wr W2) (hx : ∀ W, s.holds W → E.own W x cx s.fp) :
    ∃ l, W2.ownsRow 0 e E.size v xs.length l ∧ (∀ u ∈ l, u.oneCell' = true) ∧ ∀ v' w1, w1.ownsRow 0 e E.size v' (xs.length + 1) (l.take (k * E.size) ++ cx ++ l.drop (k * E.size)) → W2.grownBy w1 v.ownBlock → (v'.ownBlock = v.ownBlock ∨ ∀ g, v'.ownBlock = some g → W2.heap.size ≤ g) →
      ∃ fp', SepF F w0 w1 ((ts.set j tnil).set i (tsl E e (insertAt xs k x) v' fp')) := by
  have h2 := h.step hb
  have ho : SlOwn E e W2 xs v fp := h2.at_ i hi
  have hs := hx _ (h2.at_ j hj)
  obtain ⟨l, k1, k0, k2⟩ := ho.insert hk hs (h2.ndat hi) (h2.ndat hj) (fun b hb hm => h2.apart hi hj hij b hm hb)
  refine ⟨l, k1, k0, fun v' w1 g1 g2 g3 => ?_⟩
  obtain ⟨fp', m1, m2, m3⟩ := k2 v' w1 g1 g2 g3
  refine ⟨fp', h2.upd2 hij hi hj ?_ m1 m2 (fun b hb => ?_)⟩
  · exact ⟨g2.os, g2.tape, g2.output, g2.size, fun k hk hn => g2.block k hk (fun hh => hn (List.mem_append_left _ (row_in ho hh.symm)))⟩
  · rcases m3 b hb with h | h | h
    · exact .inl h
    · exact .inr (.inl h)
    · exact .inr (.inr (by omega))
end
end Mm
end Go.Proofs.YtbhmdnjammnlnaaGreatDoor

/-
  Plain heads: a measurement put into the rows of a head. No program in sight. No conditions.
-/
namespace Go.Proofs.YtbhmdnjammnlnaaGreatDoor
open Go.RowKit
namespace Pl
theorem rcmp_lt : ∀ a b : List UInt8, decide (Lib.compareBytes a b < 0) = Op.bytesLess a b
  | [], [] => rfl
  | [], _ :: _ => rfl
  | _ :: _, [] => rfl
  | a :: x, b :: y => by
    rw [Lib.compareBytes, Op.bytesLess]
    by_cases h1 : a < b
    · simp [h1]
    · by_cases h2 : b < a
      · have h3 : (a == b) = false := by
          rw [beq_eq_false_iff_ne]
          intro e
          subst e
          exact UInt8.lt_irrefl _ h2
        simp [h1, h2, h3]
      · have h3 : a = b := by
          apply UInt8.toNat_inj.1
          have k1 : ¬ a.toNat < b.toNat := h1
          have k2 : ¬ b.toNat < a.toNat := h2
          omega
        subst h3
        simp [UInt8.lt_irrefl]
        have := rcmp_lt x y
        simpa using this
theorem rcmp_zero : ∀ a b : List UInt8, Lib.compareBytes a b = 0 ↔ a = b
  | [], [] => by simp [Lib.compareBytes]
  | [], _ :: _ => by simp [Lib.compareBytes]
  | _ :: _, [] => by simp [Lib.compareBytes]
  | a :: x, b :: y => by
    rw [Lib.compareBytes]
    by_cases h1 : a < b
    · rw [if_pos h1]
      constructor
      · intro h; omega
      · intro h; injection h with h _; subst h; exact absurd h1 (UInt8.lt_irrefl _)
    · rw [if_neg h1]
      by_cases h2 : b < a
      · rw [if_pos h2]
        constructor
        · intro h; omega
        · intro h; injection h with h _; subst h; exact absurd h2 (UInt8.lt_irrefl _)
      · have h3 : a = b := by
          apply UInt8.toNat_inj.1
          have k1 : ¬ a.toNat < b.toNat := h1
          have k2 : ¬ b.toNat < a.toNat := h2
          omega
        subst h3
        rw [if_neg h2, rcmp_zero x y]
        simp
def rnm (x : Row) : ByteArray := x.Name
def RSort (l : List Row) : Prop := ∀ (i j : Nat) x y, i < j → l[i]? = some x → l[j]? = some y → lessB (rnm x) (rnm y) = true
def rpos (s : ByteArray) : List Row → Nat
  | [] => 0
  | x :: r => if lessB (rnm x) s = true then rpos s r + 1 else 0
theorem RSort.tail {x : Row} {l : List Row} (h : RSort (x :: l)) : RSort l := fun i j a b hij ha hb => h (i + 1) (j + 1) a b (by omega) ha hb
theorem rpos_le (s : ByteArray) : ∀ l, rpos s l ≤ l.length
  | [] => Nat.le_refl _
  | x :: r => by
    unfold rpos
    have := rpos_le s r
    split <;> simp <;> omega
theorem rpos_lt (s : ByteArray) : ∀ (l : List Row) (i : Nat) (x : Row), i < rpos s l → l[i]? = some x → lessB (rnm x) s = true
  | [], _, _, h, _ => by simp [rpos] at h
  | y :: r, i, x, h, hx => by
    unfold rpos at h
    split at h
    · rename_i hy
      cases i with
      | zero => simp at hx; subst hx; exact hy
      | succ i => exact rpos_lt s r i x (by omega) (by simpa using hx)
    · omega
theorem rless_trans {a b c : ByteArray} (h : lessB a b = true) (k : lessB b c = true) : lessB a c = true := bless_trans h k
theorem rless_irrefl (a : ByteArray) : lessB a a = false := bless_irrefl _
theorem rpos_ge (s : ByteArray) : ∀ (l : List Row), RSort l → ∀ (i : Nat) (x : Row), rpos s l ≤ i → l[i]? = some x → lessB (rnm x) s = false
  | [], _, _, _, _, h => by simp at h
  | y :: r, hs, i, x, h, hx => by
    unfold rpos at h
    split at h
    · cases i with
      | zero => omega
      | succ i => exact rpos_ge s r hs.tail i x (by omega) (by simpa using hx)
    · rename_i hy
      cases i with
      | zero => simp at hx; subst hx; simpa using hy
      | succ i =>
        have h1 := hs 0 (i + 1) y x (by omega) rfl hx
        cases hc : lessB (rnm x) s with
        | false => rfl
        | true => exact absurd (rless_trans h1 hc) hy
theorem rless_total {a b : ByteArray} (h : a ≠ b) : lessB a b = true ∨ lessB b a = true := bless_total (fun e => h (ba_inj e))
theorem RSort.set {l : List Row} (h : RSort l) {p : Nat} {o o' : Row} (hp : l[p]? = some o) (he : rnm o' = rnm o) : RSort (l.set p o') := by
  have get : ∀ i y, (l.set p o')[i]? = some y → ∃ z, l[i]? = some z ∧ rnm z = rnm y := fun i y hy => by
    by_cases hi : p = i
    · subst hi
      rw [List.getElem?_set_self (List.getElem?_eq_some_iff.1 hp).1] at hy
      injection hy with hy
      subst hy
      exact ⟨o, hp, he.symm⟩
    · rw [List.getElem?_set_ne hi] at hy
      exact ⟨y, hy, rfl⟩
  intro i j x y hij hx hy
  obtain ⟨x', hx', ex⟩ := get i x hx
  obtain ⟨y', hy', ey⟩ := get j y hy
  rw [← ex, ← ey]
  exact h i j x' y' hij hx' hy'
theorem RSort.insert {l : List Row} (h : RSort l) {t : Row} (hm : ∀ o, l[rpos (rnm t) l]? = some o → rnm o ≠ rnm t) : RSort (Mm.insertAt l (rpos (rnm t) l) t) := by
  have hk := rpos_le (rnm t) l
  have hgt : ∀ (i : Nat) (x : Row), rpos (rnm t) l ≤ i → l[i]? = some x → lessB (rnm t) (rnm x) = true := fun i x hi hx => by
    have hlt := (List.getElem?_eq_some_iff.1 hx).1
    obtain ⟨o, ho⟩ : ∃ o, l[rpos (rnm t) l]? = some o := ⟨_, List.getElem?_eq_getElem (by omega)⟩
    have h1 := rpos_ge (rnm t) l h _ o (Nat.le_refl _) ho
    have h2 : lessB (rnm t) (rnm o) = true := by
      rcases rless_total (hm o ho) with h3 | h3
      · rw [h1] at h3; cases h3
      · exact h3
    by_cases he : rpos (rnm t) l = i
    · rw [he, hx] at ho
      injection ho with ho
      rw [ho]; exact h2
    · exact rless_trans h2 (h _ _ o x (by omega) ho hx)
  intro i j x y hij hx hy
  rcases Mm.insertAt_get hk hx with ⟨a1, a2⟩ | ⟨a1, a2⟩ | ⟨a1, a2⟩
  · rcases Mm.insertAt_get hk hy with ⟨b1, b2⟩ | ⟨b1, b2⟩ | ⟨b1, b2⟩
    · exact h i j x y hij a2 b2
    · rw [b2]; exact rpos_lt _ l i x a1 a2
    · exact rless_trans (rpos_lt _ l i x a1 a2) (hgt _ y (by omega) b2)
  · rcases Mm.insertAt_get hk hy with ⟨b1, b2⟩ | ⟨b1, b2⟩ | ⟨b1, b2⟩
    · omega
    · omega
    · rw [a2]; exact hgt _ y (by omega) b2
  · rcases Mm.insertAt_get hk hy with ⟨b1, b2⟩ | ⟨b1, b2⟩ | ⟨b1, b2⟩
    · omega
    · omega
    · exact h (i - 1) (j - 1) x y (by omega) a2 b2
def lastAt (r : Row) : Int := (sampleAt r.Samples (r.Samples.length - 1)).At
/-- what a head is that took a measurement into row p, or found it late; the code -/
def hitS (h : Head) (p : Nat) (r : Row) (x : Say) : Head × Int :=
  if lastAt r = x.At then (⟨h.Rows, h.Offset + 1⟩, 2) else if x.At < lastAt r then (⟨h.Rows, h.Offset + 1⟩, 3) else if r.Samples.length = 40 then (⟨h.Rows, h.Offset + 1⟩, 4)
  else (⟨h.Rows.set p ⟨r.Name, r.Samples ++ [⟨x.At, x.Value⟩]⟩, h.Offset + 1⟩, 1)
def missS (h : Head) (p : Nat) (x : Say) : Head × Int :=
  if h.Rows.length = 8 then (⟨h.Rows, h.Offset + 1⟩, 4) else (⟨Mm.insertAt h.Rows p ⟨x.Name, [⟨x.At, x.Value⟩]⟩, h.Offset + 1⟩, 1)
def takeS (h : Head) (x : Say) : Head × Int :=
  match h.Rows[rpos x.Name h.Rows]? with
  | some r => if r.Name = x.Name then hitS h (rpos x.Name h.Rows) r x else missS h (rpos x.Name h.Rows) x
  | none => missS h (rpos x.Name h.Rows) x
theorem takeS_hit {h : Head} {x : Say} {r : Row} (hr : h.Rows[rpos x.Name h.Rows]? = some r) (he : r.Name = x.Name) : takeS h x = hitS h (rpos x.Name h.Rows) r x := by
  unfold takeS; rw [hr]; exact if_pos he
theorem takeS_miss {h : Head} {x : Say} (hm : ∀ o, h.Rows[rpos x.Name h.Rows]? = some o → rnm o ≠ x.Name) : takeS h x = missS h (rpos x.Name h.Rows) x := by
  unfold takeS
  split
  · rename_i r hr
    exact if_neg (hm r hr)
  · rfl
/-- what is true of every head that a program makes -/
structure HW (h : Head) : Prop where
  srt : RSort h.Rows
  ne : ∀ r, r ∈ h.Rows → r.Samples ≠ [] ∧ r.Samples.length ≤ 40
  len : h.Rows.length ≤ 8
theorem HW.zero : HW ⟨[], 0⟩ := ⟨fun i j x y _ h => by simp at h, fun r h => by simp at h, Nat.zero_le _⟩
theorem HW.hit {h : Head} {x : Say} {p : Nat} {r : Row} (k : HW h) (hr : h.Rows[p]? = some r) : HW (hitS h p r x).1 := by
  have same : HW ⟨h.Rows, h.Offset + 1⟩ := ⟨k.srt, k.ne, k.len⟩
  unfold hitS
  split
  · exact same
  · split
    · exact same
    · split
      · exact same
      · rename_i h40
        refine ⟨k.srt.set hr rfl, fun z hz => ?_, by rw [List.length_set]; exact k.len⟩
        rcases List.mem_or_eq_of_mem_set hz with h1 | rfl
        · exact k.ne z h1
        · have h2 := (k.ne r (List.mem_of_getElem? hr)).2
          exact ⟨by simp, by show (r.Samples ++ [_]).length ≤ 40; rw [List.length_append]; simp; omega⟩
theorem HW.miss {h : Head} {x : Say} (k : HW h) (hm : ∀ o, h.Rows[rpos x.Name h.Rows]? = some o → rnm o ≠ x.Name) : HW (missS h (rpos x.Name h.Rows) x).1 := by
  unfold missS
  split
  · exact ⟨k.srt, k.ne, k.len⟩
  · rename_i h8
    refine ⟨k.srt.insert (t := ⟨x.Name, [⟨x.At, x.Value⟩]⟩) hm, fun z hz => ?_, ?_⟩
    · rcases List.mem_cons.1 ((Mm.insertAt_perm _ _ _).mem_iff.1 hz) with rfl | h1
      · exact ⟨by simp, by simp⟩
      · exact k.ne z h1
    · have := k.len
      show (Mm.insertAt h.Rows _ _).length ≤ 8
      rw [Mm.insertAt_len]; omega
theorem HW.take {h : Head} (k : HW h) (x : Say) : HW (takeS h x).1 := by
  by_cases hh : ∃ r, h.Rows[rpos x.Name h.Rows]? = some r ∧ r.Name = x.Name
  · obtain ⟨r, hr, he⟩ := hh
    rw [takeS_hit hr he]; exact k.hit hr
  · have hm : ∀ o, h.Rows[rpos x.Name h.Rows]? = some o → rnm o ≠ x.Name := fun o ho he => hh ⟨o, ho, he⟩
    rw [takeS_miss hm]; exact k.miss hm
theorem hitS_off (h : Head) (p : Nat) (r : Row) (x : Say) : (hitS h p r x).1.Offset = h.Offset + 1 := by
  unfold hitS; repeat' split
  all_goals rfl
theorem missS_off (h : Head) (p : Nat) (x : Say) : (missS h p x).1.Offset = h.Offset + 1 := by
  unfold missS; repeat' split
  all_goals rfl
theorem takeS_off (h : Head) (x : Say) : (takeS h x).1.Offset = h.Offset + 1 := by
  unfold takeS
  split
  · split
    · exact hitS_off _ _ _ _
    · exact missS_off _ _ _
  · exact missS_off _ _ _
theorem takeS_code (h : Head) (x : Say) : 1 ≤ (takeS h x).2 ∧ (takeS h x).2 ≤ 4 := by
  have k1 : ∀ p r, 1 ≤ (hitS h p r x).2 ∧ (hitS h p r x).2 ≤ 4 := fun p r => by
    unfold hitS; repeat' split
    all_goals (constructor <;> (dsimp only; omega))
  have k2 : ∀ p, 1 ≤ (missS h p x).2 ∧ (missS h p x).2 ≤ 4 := fun p => by
    unfold missS; repeat' split
    all_goals (constructor <;> (dsimp only; omega))
  unfold takeS
  split
  · split
    · exact k1 _ _
    · exact k2 _
  · exact k2 _
/-- measurements, one after another -/
def foldS (h : Head) (l : List Say) : Head := l.foldl (fun h x => (takeS h x).1) h
theorem foldS_snoc (h : Head) (l : List Say) (x : Say) : foldS h (l ++ [x]) = (takeS (foldS h l) x).1 := by unfold foldS; rw [List.foldl_append]; rfl
def foldC (h : Head) : List Say → List Int
  | [] => []
  | x :: l => (takeS h x).2 :: foldC (takeS h x).1 l
theorem foldC_snoc (l : List Say) (x : Say) : ∀ h, foldC h (l ++ [x]) = foldC h l ++ [(takeS (foldS h l) x).2] := by
  induction l with
  | nil => intro h; rfl
  | cons y l ih => intro h; show _ :: foldC _ (l ++ [x]) = _; rw [ih]; rfl
theorem foldC_len (l : List Say) : ∀ h, (foldC h l).length = l.length := by
  induction l with
  | nil => intro h; rfl
  | cons y l ih => intro h; show (foldC _ l).length + 1 = l.length + 1; rw [ih]
theorem HW.fold {h : Head} (k : HW h) (l : List Say) : HW (foldS h l) := by
  induction l generalizing h with
  | nil => exact k
  | cons x l ih => exact ih (k.take x)
theorem foldS_off (l : List Say) : ∀ h : Head, (foldS h l).Offset = h.Offset + l.length := by
  induction l with
  | nil => intro h; simp [foldS]
  | cons x l ih =>
    intro h
    show (foldS (takeS h x).1 l).Offset = _
    rw [ih, takeS_off, List.length_cons]; omega
theorem fold_next {h : Head} {l : List Say} {k : Nat} {x : Say} (hx : l[k]? = some x) : foldS h (l.take (k + 1)) = (takeS (foldS h (l.take k)) x).1 ∧ foldC h (l.take (k + 1)) = foldC h (l.take k) ++ [(takeS (foldS h (l.take k)) x).2] := by
  obtain ⟨hk, e⟩ := List.getElem?_eq_some_iff.1 hx
  rw [List.take_succ_eq_append_getElem hk, e]
  exact ⟨foldS_snoc _ _ _, foldC_snoc _ _ _⟩
def sayOk (x : Say) : Bool := word false x.Name.data.toList && sampleOk ⟨x.At, x.Value⟩
def tells (s : HouseStep) : Bool := decide (s.Kind = 1) && sayOk s.What
def toldS (l : List HouseStep) : List Say := (l.filter tells).map (·.What)
theorem toldS_next {l : List HouseStep} {k : Nat} {s : HouseStep} (hs : l[k]? = some s) : toldS (l.take (k + 1)) = if tells s = true then toldS (l.take k) ++ [s.What] else toldS (l.take k) := by
  obtain ⟨hk, e⟩ := List.getElem?_eq_some_iff.1 hs
  unfold toldS
  rw [List.take_succ_eq_append_getElem hk, e, List.filter_append, List.map_append]
  by_cases h : tells s = true
  · rw [if_pos h, List.filter_cons_of_pos h]; rfl
  · rw [if_neg h, List.filter_cons_of_neg h]; simp
theorem toldS_ok {l : List HouseStep} {x : Say} (h : x ∈ toldS l) : sayOk x = true := by
  obtain ⟨s, hs, rfl⟩ := List.mem_map.1 h
  have := (List.mem_filter.1 hs).2
  unfold tells at this
  rw [Bool.and_eq_true] at this
  exact this.2
theorem toldS_len (l : List HouseStep) : (toldS l).length ≤ l.length := by unfold toldS; rw [List.length_map]; exact List.length_filter_le _ _
def playPlain (l : List HouseStep) : Head × Bool := if l.length ≤ 60 then (foldS ⟨[], 0⟩ (toldS l), true) else (⟨[], 0⟩, false)
end Pl
end Go.Proofs.YtbhmdnjammnlnaaGreatDoor

/-
  Plain logs: the records of a string, the index of a piece. No program in sight. No conditions.
-/
namespace Go.Proofs.YtbhmdnjammnlnaaGreatDoor
open Go.RowKit
namespace Pl
/-- the length of the record that begins at a place -/
def recLen (s : ByteArray) (k : Nat) : Option Nat :=
  match s.data.toList[k]? with
  | some b => if b.toNat ≤ 40 ∧ b.toNat % 2 = 0 ∧ k + 1 + b.toNat / 2 ≤ s.size then some (b.toNat / 2) else none
  | none => none
theorem recLen_le {s : ByteArray} {k n : Nat} (h : recLen s k = some n) : k + 1 + n ≤ s.size ∧ n ≤ 20 := by
  unfold recLen at h
  split at h
  · split at h
    · rename_i hb
      injection h with h
      omega
    · cases h
  · cases h
theorem recLen_yes {s : ByteArray} {k : Nat} {b : UInt8} (hb : s.data.toList[k]? = some b) (h : b.toNat ≤ 40 ∧ b.toNat % 2 = 0 ∧ k + 1 + b.toNat / 2 ≤ s.size) : recLen s k = some (b.toNat / 2) := by
  unfold recLen; rw [hb]; exact if_pos h
theorem recLen_no {s : ByteArray} {k : Nat} {b : UInt8} (hb : s.data.toList[k]? = some b) (h : ¬ (b.toNat ≤ 40 ∧ b.toNat % 2 = 0 ∧ k + 1 + b.toNat / 2 ≤ s.size)) : recLen s k = none := by
  unfold recLen; rw [hb]; exact if_neg h
theorem recLen_end {s : ByteArray} {k : Nat} (h : s.size ≤ k) : recLen s k = none := by
  unfold recLen
  rw [List.getElem?_eq_none (by rw [Array.length_toList]; exact h)]
/-- where records begin, with their lengths, from a place on -/
def recF (s : ByteArray) : Nat → Nat → List (Nat × Nat)
  | 0, _ => []
  | f + 1, k => match recLen s k with | some n => (k, n) :: recF s f (k + 1 + n) | none => []
def endF (s : ByteArray) : Nat → Nat → Nat
  | 0, k => k
  | f + 1, k => match recLen s k with | some n => endF s f (k + 1 + n) | none => k
theorem recF_more {s : ByteArray} : ∀ (f k : Nat), s.size ≤ k + f → ∀ g, f ≤ g → recF s g k = recF s f k ∧ endF s g k = endF s f k
  | 0, k, h, g, _ => by
    cases g with
    | zero => exact ⟨rfl, rfl⟩
    | succ g => unfold recF endF; rw [recLen_end (by omega)]; exact ⟨rfl, rfl⟩
  | f + 1, k, h, 0, hg => absurd hg (by omega)
  | f + 1, k, h, g + 1, hg => by
    unfold recF endF
    cases hr : recLen s k with
    | none => exact ⟨rfl, rfl⟩
    | some n =>
      obtain ⟨h1, h2⟩ := recF_more (s := s) f (k + 1 + n) (by omega) g (by omega)
      exact ⟨by show _ :: _ = _ :: _; rw [h1], h2⟩
def recsAt (s : ByteArray) (k : Nat) : List (Nat × Nat) := recF s s.size k
def endAt (s : ByteArray) (k : Nat) : Nat := endF s s.size k
theorem recsAt_some {s : ByteArray} {k n : Nat} (h : recLen s k = some n) : recsAt s k = (k, n) :: recsAt s (k + 1 + n) ∧ endAt s k = endAt s (k + 1 + n) := by
  have hl := (recLen_le h).1
  obtain ⟨g, hg⟩ : ∃ g, s.size = g + 1 := ⟨s.size - 1, by omega⟩
  have h1 := recF_more (s := s) g (k + 1 + n) (by omega) (g + 1) (by omega)
  unfold recsAt endAt
  rw [hg]
  constructor
  · rw [h1.1]
    show (match recLen s k with | some n => (k, n) :: recF s g (k + 1 + n) | none => []) = _
    rw [h]
  · rw [h1.2]
    show (match recLen s k with | some n => endF s g (k + 1 + n) | none => k) = _
    rw [h]
theorem recsAt_none {s : ByteArray} {k : Nat} (h : recLen s k = none) : recsAt s k = [] ∧ endAt s k = k := by
  unfold recsAt endAt
  cases s.size with
  | zero => exact ⟨rfl, rfl⟩
  | succ g => unfold recF endF; rw [h]; exact ⟨rfl, rfl⟩
def recs (s : ByteArray) : List (Nat × Nat) := recsAt s 0
def whole (s : ByteArray) : Nat := endAt s 0
def starts (s : ByteArray) : List Int := (recs s).map (fun p => (p.1 : Int))
def recTxt (s : ByteArray) (p : Nat × Nat) : ByteArray := s.extract (p.1 + 1) (p.1 + 1 + p.2)
def records (s : ByteArray) : List ByteArray := (recs s).map (recTxt s)
/-- the walk over the records: behind a part that is done -/
structure RecW (s : ByteArray) (done : List (Nat × Nat)) (k : Nat) : Prop where
  le : k ≤ s.size
  rest : recs s = done ++ recsAt s k
  fin : whole s = endAt s k
  dn : done.length ≤ k
theorem RecW.start (s : ByteArray) : RecW s [] 0 := ⟨Nat.zero_le _, rfl, rfl, Nat.zero_le _⟩
theorem RecW.next {s : ByteArray} {done : List (Nat × Nat)} {k n : Nat} (h : RecW s done k) (hr : recLen s k = some n) : RecW s (done ++ [(k, n)]) (k + 1 + n) := by
  obtain ⟨h1, h2⟩ := recsAt_some hr
  exact ⟨(recLen_le hr).1, by rw [h.rest, h1, List.append_assoc]; rfl, by rw [h.fin, h2], by rw [List.length_append]; have := h.dn; simp; omega⟩
theorem RecW.stop {s : ByteArray} {done : List (Nat × Nat)} {k : Nat} (h : RecW s done k) (hr : recLen s k = none) : recs s = done ∧ whole s = k := by
  obtain ⟨h1, h2⟩ := recsAt_none hr
  exact ⟨by rw [h.rest, h1, List.append_nil], by rw [h.fin, h2]⟩
/-- every third -/
def idx3 (l : List Int) : List Int := (l.zipIdx.filter (fun p => decide (p.2 % 3 = 0))).map (·.1)
theorem idx3_snoc (l : List Int) (x : Int) : idx3 (l ++ [x]) = if l.length % 3 = 0 then idx3 l ++ [x] else idx3 l := by
  unfold idx3
  rw [List.zipIdx_append, List.filter_append, List.map_append]
  by_cases h : l.length % 3 = 0
  · rw [if_pos h]; simp [h]
  · rw [if_neg h]; simp [h]
theorem idx3_len (l : List Int) : (idx3 l).length ≤ l.length := by
  unfold idx3
  rw [List.length_map]
  exact Nat.le_trans (List.length_filter_le _ _) (by simp)
/-- records laid one after another -/
theorem recF_mem (s : ByteArray) : ∀ (f k : Nat) (p : Nat × Nat), p ∈ recF s f k → recLen s p.1 = some p.2 ∧ k ≤ p.1
  | 0, _, _, h => by cases h
  | f + 1, k, p, h => by
    unfold recF at h
    split at h
    · rename_i n hn
      rcases List.mem_cons.1 h with rfl | h
      · exact ⟨hn, Nat.le_refl _⟩
      · have := recF_mem s f (k + 1 + n) p h
        exact ⟨this.1, by omega⟩
    · cases h
theorem recs_mem {s : ByteArray} {p : Nat × Nat} (h : p ∈ recs s) : recLen s p.1 = some p.2 := (recF_mem s _ _ p h).1
theorem recTxt_len {s : ByteArray} {p : Nat × Nat} (h : p ∈ recs s) : (recTxt s p).size = p.2 := by
  have := (recLen_le (recs_mem h)).1
  unfold recTxt
  rw [ByteArray.size_extract]
  omega
theorem recs_len (s : ByteArray) : (recs s).length ≤ s.size := by
  have : ∀ f k, (recF s f k).length ≤ f := by
    intro f
    induction f with
    | zero => intro k; simp [recF]
    | succ f ih =>
      intro k
      unfold recF
      split
      · rw [List.length_cons]; exact Nat.succ_le_succ (ih _)
      · simp
  exact this _ _
/-- the place behind the first records -/
def rsum (l : List (Nat × Nat)) : Nat := l.foldl (fun a p => a + 1 + p.2) 0
theorem rsum_snoc (l : List (Nat × Nat)) (p : Nat × Nat) : rsum (l ++ [p]) = rsum l + 1 + p.2 := by unfold rsum; rw [List.foldl_append]; rfl
theorem sumF (s : ByteArray) : ∀ (f k i : Nat) (p : Nat × Nat), (recF s f k)[i]? = some p → p.1 = ((recF s f k).take i).foldl (fun a p => a + 1 + p.2) k
  | 0, _, _, _, h => by simp [recF] at h
  | f + 1, k, i, p, h => by
    unfold recF at h ⊢
    split at h
    · rename_i n hn
      cases i with
      | zero => simp at h; subst h; rfl
      | succ i =>
        show p.1 = ((recF s f (k + 1 + n)).take i).foldl (fun a p => a + 1 + p.2) (k + 1 + n)
        exact sumF s f (k + 1 + n) i p (by simpa using h)
    · simp at h
theorem recs_sum {s : ByteArray} {i : Nat} {p : Nat × Nat} (h : (recs s)[i]? = some p) : p.1 = rsum ((recs s).take i) := sumF s _ 0 i p h
/-- a piece -/
def pieceOf (from_ : Int) (s : ByteArray) : Piece := ⟨from_, s, idx3 (starts s)⟩
def pieceOk (p : Piece) : Bool := decide (p.Bytes.size ≤ 60) && decide (whole p.Bytes = p.Bytes.size) && decide (p.Index = idx3 (starts p.Bytes))
def pMany (p : Piece) : Nat := (recs p.Bytes).length
end Pl
end Go.Proofs.YtbhmdnjammnlnaaGreatDoor

/-
  Plain: numerals, cuts at a byte, the text of a measurement and of a head. No program in sight. No conditions.
-/
namespace Go.Proofs.YtbhmdnjammnlnaaGreatDoor
open Go.RowKit
namespace Pl
theorem digitVal_of {d : Nat} (h : d < 10) : Lib.digitVal (UInt8.ofNat (48 + d)) = some d := by
  have : (UInt8.ofNat (48 + d)).toNat = 48 + d := by rw [UInt8.toNat_ofNat']; omega
  unfold Lib.digitVal
  rw [this, if_pos (by omega)]
  congr 1; omega
theorem decFrom_app : ∀ (a b : List UInt8) (acc : Nat), Lib.decFrom acc (a ++ b) = (Lib.decFrom acc a).bind fun n => Lib.decFrom n b
  | [], b, acc => rfl
  | c :: a, b, acc => by
    show Lib.decFrom acc (c :: (a ++ b)) = _
    rw [show Lib.decFrom acc (c :: (a ++ b)) = match Lib.digitVal c with | some d => Lib.decFrom (acc * 10 + d) (a ++ b) | none => none from rfl, show Lib.decFrom acc (c :: a) = match Lib.digitVal c with | some d => Lib.decFrom (acc * 10 + d) a | none => none from rfl]
    cases Lib.digitVal c with
    | none => rfl
    | some d => exact decFrom_app a b _
theorem decFrom_digits : ∀ (u : Nat), Lib.decFrom 0 (Lib.decDigits u) = some u := by
  intro u
  induction u using Nat.strongRecOn with
  | _ u ih =>
    rw [Lib.decDigits]
    split
    · rename_i h
      unfold Lib.decFrom
      rw [digitVal_of h]
      show Lib.decFrom (0 * 10 + u) [] = _
      unfold Lib.decFrom
      congr 1; omega
    · rename_i h
      rw [decFrom_app, ih (u / 10) (by omega)]
      show Lib.decFrom (u / 10) [_] = _
      unfold Lib.decFrom
      rw [digitVal_of (by omega)]
      show Lib.decFrom _ [] = _
      unfold Lib.decFrom
      congr 1; omega
theorem digits_ne (u : Nat) : Lib.decDigits u ≠ [] := by
  intro h
  have := Lib.decDigits_length u
  have h2 := Lib.nDigits_pos u
  rw [h] at this
  simp at this; omega
theorem digits_mem (u : Nat) : ∀ b, b ∈ Lib.decDigits u → 48 ≤ b.toNat ∧ b.toNat ≤ 57 := by
  induction u using Nat.strongRecOn with
  | _ u ih =>
    intro b hb
    rw [Lib.decDigits] at hb
    split at hb
    · rename_i h
      rw [List.mem_singleton] at hb
      rw [hb, UInt8.toNat_ofNat']; omega
    · rename_i h
      rcases List.mem_append.1 hb with hb | hb
      · exact ih (u / 10) (by omega) b hb
      · rw [List.mem_singleton] at hb
        rw [hb, UInt8.toNat_ofNat']; omega
theorem decNat_digits (u : Nat) : Lib.decNat (Lib.decDigits u) = some u := by
  unfold Lib.decNat
  rw [if_neg (by have := digits_ne u; simpa using this), decFrom_digits]
theorem atoi_itoa (n : Int) : Lib.atoi (Lib.itoa n) = some n := by
  unfold Lib.itoa
  split
  · rename_i h
    rw [show Lib.atoi (45 :: Lib.decDigits n.natAbs) = (Lib.decNat (Lib.decDigits n.natAbs)).map fun (m : Nat) => -(m : Int) from rfl, decNat_digits]
    simp; omega
  · rename_i h
    have hm := digits_mem n.toNat
    have hd := decNat_digits n.toNat
    cases hl : Lib.decDigits n.toNat with
    | nil => exact absurd hl (digits_ne _)
    | cons b r =>
      rw [hl] at hm hd
      have hb := hm b (List.mem_cons_self ..)
      unfold Lib.atoi
      dsimp only
      rw [if_neg, if_neg, hd]
      · simp; omega
      · intro h; have := congrArg UInt8.toNat (beq_iff_eq.1 h); simp at this; omega
      · intro h; have := congrArg UInt8.toNat (beq_iff_eq.1 h); simp at this; omega
theorem itoa_inj {a b : Int} (h : Lib.itoa a = Lib.itoa b) : a = b := by
  have h1 := atoi_itoa a
  rw [h, atoi_itoa b] at h1
  exact (Option.some.inj h1).symm
theorem itoa_mem (n : Int) : ∀ b, b ∈ Lib.itoa n → b.toNat = 45 ∨ (48 ≤ b.toNat ∧ b.toNat ≤ 57) := by
  intro b hb
  unfold Lib.itoa at hb
  split at hb
  · rcases List.mem_cons.1 hb with rfl | hb
    · exact .inl rfl
    · exact .inr (digits_mem _ b hb)
  · exact .inr (digits_mem _ b hb)
theorem itoa_len (n : Int) : 1 ≤ (Lib.itoa n).length := by
  unfold Lib.itoa
  split
  · simp
  · have := digits_ne n.toNat
    cases h : Lib.decDigits n.toNat with
    | nil => exact absurd h this
    | cons b r => simp
/-- a list of bytes, cut at every instance of a byte -/
def splitL (c : UInt8) : List UInt8 → List (List UInt8)
  | [] => [[]]
  | b :: l => if b = c then [] :: splitL c l else match splitL c l with | h :: t => (b :: h) :: t | [] => [[b]]
theorem splitL_ne (c : UInt8) : ∀ l, splitL c l ≠ []
  | [] => by simp [splitL]
  | b :: l => by
    unfold splitL
    split
    · simp
    · cases splitL c l <;> simp
theorem splitL_none {c : UInt8} : ∀ {l : List UInt8}, c ∉ l → splitL c l = [l]
  | [], _ => rfl
  | b :: l, h => by
    unfold splitL
    rw [if_neg (fun e => h (by rw [e]; exact List.mem_cons_self ..)), splitL_none (fun e => h (List.mem_cons_of_mem _ e))]
theorem splitL_cut {c : UInt8} : ∀ {a r : List UInt8}, c ∉ a → splitL c (a ++ c :: r) = a :: splitL c r
  | [], r, _ => by show splitL c (c :: r) = _; unfold splitL; rw [if_pos rfl]; cases r <;> rfl
  | b :: a, r, h => by
    show splitL c (b :: (a ++ c :: r)) = _
    unfold splitL
    rw [if_neg (fun e => h (by rw [e]; exact List.mem_cons_self ..)), splitL_cut (fun e => h (List.mem_cons_of_mem _ e))]
    cases r <;> rfl
theorem index_mem {c : UInt8} : ∀ {a r : List UInt8}, c ∉ a → Lib.index (a ++ c :: r) [c] = (a.length : Int)
  | [], r, _ => by show Lib.index (c :: r) [c] = _; rw [Lib.index]; simp [List.isPrefixOf]
  | b :: a, r, h => by
    have ih := index_mem (c := c) (a := a) (r := r) (fun e => h (List.mem_cons_of_mem _ e))
    have hbc : b ≠ c := fun e => h (by rw [e]; exact List.mem_cons_self ..)
    have hp : ([c] : List UInt8).isPrefixOf (b :: (a ++ c :: r)) = false := by simp [List.isPrefixOf, Ne.symm hbc]
    show Lib.index (b :: (a ++ c :: r)) [c] = _
    rw [Lib.index, hp, ih]
    have : ¬ ((a.length : Int) == -1) = true := fun e => by have := beq_iff_eq.1 e; omega
    simp [this]
theorem split_first {c : UInt8} : ∀ {l : List UInt8}, c ∈ l → ∃ a r, l = a ++ c :: r ∧ c ∉ a
  | b :: l, h => by
    by_cases hb : b = c
    · subst hb; exact ⟨[], l, rfl, by simp⟩
    · obtain ⟨a, r, rfl, ha⟩ := split_first (c := c) (l := l) (by rcases List.mem_cons.1 h with e | e; exact absurd e.symm hb; exact e)
      exact ⟨b :: a, r, rfl, by simp [Ne.symm hb, ha]⟩
theorem splitK_all (c : UInt8) : ∀ (k : Nat) (l : List UInt8), l.count c = k → Lib.splitK [c] 0 k l = splitL c l
  | 0, l, h => by rw [splitL_none (fun e => by have := List.count_pos_iff.2 e; omega)]; rfl
  | k + 1, l, h => by
    obtain ⟨a, r, rfl, ha⟩ := split_first (c := c) (l := l) (List.count_pos_iff.1 (by omega))
    have hi := index_mem (c := c) (a := a) (r := r) ha
    rw [splitL_cut ha]
    unfold Lib.splitK
    rw [hi, if_neg (fun e => by have := beq_iff_eq.1 e; omega)]
    have hc : (a ++ c :: r).count c = r.count c + 1 := by
      rw [List.count_append, List.count_cons_self, List.count_eq_zero.2 ha]; omega
    have ih := splitK_all c k r (by omega)
    rw [← ih]
    simp
theorem splitL_len (c : UInt8) : ∀ l, (splitL c l).length = l.count c + 1
  | [] => rfl
  | b :: l => by
    have ih := splitL_len c l
    unfold splitL
    by_cases hb : b = c
    · subst hb; rw [if_pos rfl, List.length_cons, ih, List.count_cons_self]
    · rw [if_neg hb, List.count_cons_of_ne hb]
      cases hs : splitL c l with
      | nil => exact absurd hs (splitL_ne c l)
      | cons h t => rw [hs] at ih; simpa using ih
/-- the pieces' sizes and the cuts make up the whole -/
theorem splitL_sum (c : UInt8) : ∀ l, ((splitL c l).map List.length).sum + (splitL c l).length = l.length + 1
  | [] => rfl
  | b :: l => by
    have ih := splitL_sum c l
    unfold splitL
    by_cases hb : b = c
    · rw [if_pos hb]; simp; omega
    · rw [if_neg hb]
      cases hs : splitL c l with
      | nil => exact absurd hs (splitL_ne c l)
      | cons h t => rw [hs] at ih; simp at ih ⊢; omega
theorem splitL_free (c : UInt8) : ∀ l p, p ∈ splitL c l → c ∉ p
  | [], p, h => by simp [splitL] at h; subst h; simp
  | b :: l, p, h => by
    have ih := splitL_free c l
    unfold splitL at h
    by_cases hb : b = c
    · rw [if_pos hb] at h
      rcases List.mem_cons.1 h with rfl | h
      · simp
      · exact ih p h
    · rw [if_neg hb] at h
      cases hs : splitL c l with
      | nil => exact absurd hs (splitL_ne c l)
      | cons x t =>
        rw [hs] at h ih
        rcases List.mem_cons.1 h with rfl | h
        · have := ih x (List.mem_cons_self ..)
          simp [Ne.symm hb, this]
        · exact ih p (List.mem_cons_of_mem _ h)

/-- pieces, joined -/
def joinL (c : UInt8) : List (List UInt8) → List UInt8
  | [] => []
  | [a] => a
  | a :: b :: r => a ++ c :: joinL c (b :: r)
theorem joinL_split (c : UInt8) : ∀ l, joinL c (splitL c l) = l
  | [] => rfl
  | b :: l => by
    have ih := joinL_split c l
    unfold splitL
    cases hs : splitL c l with
    | nil => exact absurd hs (splitL_ne c l)
    | cons h t =>
      rw [hs] at ih
      split
      · rename_i hb
        subst hb
        show [] ++ b :: joinL b (h :: t) = _
        rw [ih]; rfl
      · cases t with
        | nil => show b :: h = _; rw [← ih]; rfl
        | cons h2 t => show b :: h ++ c :: joinL c (h2 :: t) = _; rw [← ih]; rfl
def itoaB (n : Int) : ByteArray := ⟨(Lib.itoa n).toArray⟩
def spB : ByteArray := ⟨#[32]⟩
def nlB : ByteArray := ⟨#[10]⟩
def sayTxt (x : Say) : ByteArray := x.Name ++ spB ++ itoaB x.At ++ spB ++ itoaB x.Value
def sayL (x : Say) : List UInt8 := x.Name.data.toList ++ 32 :: (Lib.itoa x.At ++ 32 :: Lib.itoa x.Value)
theorem sayTxt_data (x : Say) : (sayTxt x).data.toList = sayL x := by
  unfold sayTxt sayL itoaB spB
  simp [ByteArray.data_append]
theorem word_free {l : List UInt8} (h : word false l = true) : ∀ c, c ∈ l → 97 ≤ c.toNat ∧ c.toNat ≤ 122 := by
  unfold word at h
  rw [Bool.and_eq_true, List.all_eq_true] at h
  intro c hc
  have := h.1 c hc
  unfold wbyte at this
  simp at this
  omega
theorem word_no {l : List UInt8} (h : word false l = true) (c : UInt8) (hc : c.toNat < 97) : c ∉ l := fun hm => by have := word_free h c hm; omega
theorem itoa_no (n : Int) (c : UInt8) (hc : c.toNat < 45) : c ∉ Lib.itoa n := fun hm => by have := itoa_mem n c hm; omega
theorem sayOk_word {x : Say} (h : sayOk x = true) : word false x.Name.data.toList = true := by
  unfold sayOk at h
  rw [Bool.and_eq_true] at h
  exact h.1
theorem sayOk_bounds {x : Say} (h : sayOk x = true) : 0 ≤ x.At ∧ x.At ≤ 1000000000 ∧ -1000000000 ≤ x.Value ∧ x.Value ≤ 1000000000 := by
  unfold sayOk sampleOk isIn at h
  simp at h
  omega
theorem sayOk_name {x : Say} (h : sayOk x = true) : x.Name.size ≤ 8 := by
  have := (word_len (sayOk_word h)).2
  rwa [Array.length_toList] at this
theorem sayL_split {x : Say} (h : sayOk x = true) : splitL 32 (sayL x) = [x.Name.data.toList, Lib.itoa x.At, Lib.itoa x.Value] := by
  unfold sayL
  rw [splitL_cut (word_no (sayOk_word h) 32 (by decide)), splitL_cut (itoa_no _ 32 (by decide)), splitL_none (itoa_no _ 32 (by decide))]
theorem sba_ext {a b : ByteArray} (h : a.data.toList = b.data.toList) : a = b := by cases a; cases b; congr 1; exact Array.toList_inj.1 h
theorem sayL_inj {x y : Say} (hx : sayOk x = true) (hy : sayOk y = true) (h : sayL x = sayL y) : x = y := by
  have h1 := sayL_split hx
  rw [h, sayL_split hy] at h1
  simp only [List.cons.injEq, and_true] at h1
  obtain ⟨e1, e2, e3⟩ := h1
  cases x; cases y
  simp only [Say.mk.injEq]
  exact ⟨sba_ext e1.symm, (itoa_inj e2).symm, (itoa_inj e3).symm⟩
theorem sayTxt_inj {x y : Say} (hx : sayOk x = true) (hy : sayOk y = true) (h : sayTxt x = sayTxt y) : x = y :=
  sayL_inj hx hy (by rw [← sayTxt_data, ← sayTxt_data, h])
/-- the measurement of a text -/
def readS (s : ByteArray) : Option Say :=
  match splitL 32 s.data.toList with
  | [a, b, c] => match Lib.atoi b, Lib.atoi c with
    | some n, some m => if sayOk ⟨⟨a.toArray⟩, n, m⟩ = true ∧ sayTxt ⟨⟨a.toArray⟩, n, m⟩ = s then some ⟨⟨a.toArray⟩, n, m⟩ else none
    | _, _ => none
  | _ => none
theorem readS_of {x : Say} (h : sayOk x = true) : readS (sayTxt x) = some x := by
  unfold readS
  rw [sayTxt_data, sayL_split h]
  dsimp only
  rw [atoi_itoa, atoi_itoa]
  dsimp only
  have e : (⟨x.Name.data.toList.toArray⟩ : ByteArray) = x.Name := sba_ext (by simp)
  rw [e]
  exact if_pos ⟨h, rfl⟩
theorem readS_is {s : ByteArray} {x : Say} (h : readS s = some x) : sayOk x = true ∧ sayTxt x = s := by
  unfold readS at h
  split at h
  · split at h
    · split at h
      · rename_i hc
        injection h with h
        subst h
        exact hc
      · cases h
    · cases h
  · cases h
theorem readS_iff {s : ByteArray} {x : Say} : readS s = some x ↔ sayOk x = true ∧ sayTxt x = s :=
  ⟨readS_is, fun ⟨h1, h2⟩ => by rw [← h2]; exact readS_of h1⟩
/-- how the words decide: three words, two numerals -/
theorem readS_words {s : ByteArray} (h : (splitL 32 s.data.toList).length ≠ 3) : readS s = none := by
  unfold readS
  split
  · rename_i e; rw [e] at h; exact absurd rfl h
  · rfl
theorem readS_three {s : ByteArray} {a b c : List UInt8} (h : splitL 32 s.data.toList = [a, b, c]) :
    readS s = match Lib.atoi b, Lib.atoi c with
    | some n, some m => if sayOk ⟨⟨a.toArray⟩, n, m⟩ = true ∧ sayTxt ⟨⟨a.toArray⟩, n, m⟩ = s then some ⟨⟨a.toArray⟩, n, m⟩ else none
    | _, _ => none := by
  unfold readS; rw [h]
theorem three_join {s : ByteArray} {a b c : List UInt8} (h : splitL 32 s.data.toList = [a, b, c]) : s.data.toList = a ++ 32 :: (b ++ 32 :: c) := by
  rw [← joinL_split 32 s.data.toList, h]; rfl
theorem three_size {s : ByteArray} {a b c : List UInt8} (h : splitL 32 s.data.toList = [a, b, c]) : a.length + b.length + c.length + 2 = s.size := by
  have := congrArg List.length (three_join h)
  have hs : s.data.toList.length = s.size := by rw [Array.length_toList]; rfl
  rw [hs] at this
  simp at this
  omega
/-- the reference reads a numeral: of ten digits at most -/
def int13 (l : List UInt8) (n : Int) : Prop := -10000000000 < n ∧ n < 10000000000 ∧ Lib.itoa n = l
theorem readS_ints {s : ByteArray} {a b c : List UInt8} (h : splitL 32 s.data.toList = [a, b, c]) {n m : Int} (hn : int13 b n) (hm : int13 c m) (ok : sayOk ⟨⟨a.toArray⟩, n, m⟩ = true) : readS s = some ⟨⟨a.toArray⟩, n, m⟩ :=
  readS_iff.2 ⟨ok, sba_ext (by rw [sayTxt_data, three_join h]; unfold sayL; rw [hn.2.2, hm.2.2])⟩
theorem readS_not {s : ByteArray} {a b c : List UInt8} (h : splitL 32 s.data.toList = [a, b, c]) (hno : ∀ n m, int13 b n → int13 c m → sayOk ⟨⟨a.toArray⟩, n, m⟩ = true → False) : readS s = none := by
  cases hr : readS s with
  | none => rfl
  | some x =>
    obtain ⟨h1, h2⟩ := readS_is hr
    have h3 := sayL_split h1
    rw [← sayTxt_data, h2, h] at h3
    simp only [List.cons.injEq, and_true] at h3
    obtain ⟨e1, e2, e3⟩ := h3
    have hb := sayOk_bounds h1
    refine absurd (hno x.At x.Value ⟨by omega, by omega, e2.symm⟩ ⟨by omega, by omega, e3.symm⟩ ?_) id
    have e : (⟨a.toArray⟩ : ByteArray) = x.Name := sba_ext (by simpa using e1)
    rw [e]; exact h1
/-- the texts of a log, read -/
def readAll : List ByteArray → Option (List Say)
  | [] => some []
  | s :: l => match readS s, readAll l with
    | some x, some r => some (x :: r)
    | _, _ => none
theorem readAll_iff : ∀ {l : List ByteArray} {r : List Say}, readAll l = some r ↔ l = r.map sayTxt ∧ ∀ x, x ∈ r → sayOk x = true
  | [], r => by
    cases r with
    | nil => simp [readAll]
    | cons x r => simp [readAll]
  | s :: l, r => by
    unfold readAll
    constructor
    · intro h
      split at h
      · rename_i x r' h1 h2
        injection h with h
        subst h
        obtain ⟨a1, a2⟩ := readS_is h1
        obtain ⟨b1, b2⟩ := readAll_iff.1 h2
        exact ⟨by rw [List.map_cons, a2, ← b1], fun y hy => by
          rcases List.mem_cons.1 hy with rfl | hy
          · exact a1
          · exact b2 y hy⟩
      · cases h
    · rintro ⟨h1, h2⟩
      cases r with
      | nil => cases h1
      | cons x r =>
        rw [List.map_cons, List.cons.injEq] at h1
        rw [readS_iff.2 ⟨h2 x (List.mem_cons_self ..), h1.1.symm⟩, readAll_iff.2 ⟨h1.2, fun y hy => h2 y (List.mem_cons_of_mem _ hy)⟩]
/-- the text of a head -/
def rowSays (r : Row) : List Say := r.Samples.map fun x => ⟨r.Name, x.At, x.Value⟩
def headSays (h : Head) : List Say := h.Rows.flatMap rowSays
def lineL (x : Say) : List UInt8 := sayL x ++ [10]
def headL (h : Head) : List UInt8 := Lib.itoa h.Offset ++ 10 :: (headSays h).flatMap lineL
def headTxt (h : Head) : ByteArray := ⟨(headL h).toArray⟩
/-- a good head -/
structure HeadOk (h : Head) : Prop where
  srt : RSort h.Rows
  row : ∀ r, r ∈ h.Rows → word false r.Name.data.toList = true ∧ r.Samples ≠ [] ∧ samplesOk r.Samples = true
  len : h.Rows.length ≤ 8
  off : 0 ≤ h.Offset ∧ h.Offset ≤ 1000
theorem samplesOk_len {l : List Sample} (h : samplesOk l = true) : l.length ≤ 40 := by
  unfold samplesOk at h
  rw [Bool.and_eq_true] at h
  have := of_decide_eq_true h.2
  omega
theorem samplesOk_mem {l : List Sample} (h : samplesOk l = true) {x : Sample} (hx : x ∈ l) : sampleOk x = true := by
  obtain ⟨k, hk⟩ := List.getElem?_of_mem hx
  cases hs : sampleOk x with
  | true => rfl
  | false =>
    rw [samplesOk_bad (List.getElem?_eq_some_iff.1 hk).1 (good_bad hk hs)] at h
    cases h
theorem HeadOk.hw {h : Head} (k : HeadOk h) : HW h := ⟨k.srt, fun r hr => ⟨(k.row r hr).2.1, samplesOk_len (k.row r hr).2.2⟩, k.len⟩
theorem HeadOk.says {h : Head} (k : HeadOk h) : ∀ x, x ∈ headSays h → sayOk x = true := by
  intro x hx
  obtain ⟨r, hr, hx⟩ := List.mem_flatMap.1 hx
  obtain ⟨y, hy, rfl⟩ := List.mem_map.1 hx
  unfold sayOk
  rw [(k.row r hr).1]
  exact samplesOk_mem (k.row r hr).2.2 hy
theorem sayL_free {x : Say} (h : sayOk x = true) : (10 : UInt8) ∉ sayL x := by
  unfold sayL
  intro hm
  rcases List.mem_append.1 hm with hm | hm
  · exact word_no (sayOk_word h) 10 (by decide) hm
  · rcases List.mem_cons.1 hm with hm | hm
    · cases hm
    · rcases List.mem_append.1 hm with hm | hm
      · exact itoa_no _ 10 (by decide) hm
      · rcases List.mem_cons.1 hm with hm | hm
        · cases hm
        · exact itoa_no _ 10 (by decide) hm
theorem lines_inj : ∀ {a b : List Say}, (∀ x, x ∈ a → sayOk x = true) → (∀ x, x ∈ b → sayOk x = true) → a.flatMap lineL = b.flatMap lineL → a = b
  | [], [], _, _, _ => rfl
  | [], y :: b, _, _, h => by rw [List.flatMap_cons] at h; unfold lineL at h; simp at h
  | x :: a, [], _, _, h => by rw [List.flatMap_cons] at h; unfold lineL at h; simp at h
  | x :: a, y :: b, ha, hb, h => by
    rw [List.flatMap_cons, List.flatMap_cons] at h
    unfold lineL at h
    rw [List.append_assoc, List.append_assoc, List.singleton_append, List.singleton_append] at h
    have hx := ha x (List.mem_cons_self ..)
    have hy := hb y (List.mem_cons_self ..)
    have h1 := splitL_cut (r := a.flatMap lineL) (sayL_free hx)
    have h2 := splitL_cut (r := b.flatMap lineL) (sayL_free hy)
    unfold lineL at h1 h2
    rw [h, h2, List.cons.injEq] at h1
    have e := sayL_inj hx hy h1.1.symm
    subst e
    rw [lines_inj (fun z hz => ha z (List.mem_cons_of_mem _ hz)) (fun z hz => hb z (List.mem_cons_of_mem _ hz)) (by
      have := List.append_cancel_left h
      rw [List.cons.injEq] at this
      exact this.2)]
theorem rows_inj : ∀ {a b : List Row}, RSort a → RSort b → (∀ r, r ∈ a → r.Samples ≠ []) → (∀ r, r ∈ b → r.Samples ≠ []) → a.flatMap rowSays = b.flatMap rowSays → a = b
  | [], [], _, _, _, _, _ => rfl
  | [], y :: b, _, _, _, hb, h => by
    have := hb y (List.mem_cons_self ..)
    rw [List.flatMap_cons] at h
    cases hs : y.Samples with
    | nil => exact absurd hs this
    | cons s t => unfold rowSays at h; rw [hs] at h; simp at h
  | x :: a, [], _, _, ha, _, h => by
    have := ha x (List.mem_cons_self ..)
    rw [List.flatMap_cons] at h
    cases hs : x.Samples with
    | nil => exact absurd hs this
    | cons s t => unfold rowSays at h; rw [hs] at h; simp at h
  | x :: a, y :: b, sa, sb, ha, hb, h => by
    rw [List.flatMap_cons, List.flatMap_cons] at h
    have hxn := ha x (List.mem_cons_self ..)
    have hyn := hb y (List.mem_cons_self ..)
    have hname : x.Name = y.Name := by
      cases hs : x.Samples with
      | nil => exact absurd hs hxn
      | cons s t =>
        cases hs2 : y.Samples with
        | nil => exact absurd hs2 hyn
        | cons s2 t2 =>
          unfold rowSays at h
          rw [hs, hs2] at h
          simp only [List.map_cons, List.cons_append, List.cons.injEq, Say.mk.injEq] at h
          exact h.1.1
    have later : ∀ {z : Row} {l : List Row}, RSort (z :: l) → ∀ s, s ∈ l.flatMap rowSays → s.Name ≠ z.Name := by
      intro z l hl s hs he
      obtain ⟨r, hr, hs⟩ := List.mem_flatMap.1 hs
      obtain ⟨q, hq, rfl⟩ := List.mem_map.1 hs
      obtain ⟨i, hi⟩ := List.getElem?_of_mem hr
      have := hl 0 (i + 1) z r (by omega) rfl (by simpa using hi)
      rw [show rnm z = z.Name from rfl, show rnm r = r.Name from rfl, ← show r.Name = z.Name from he, rless_irrefl] at this
      cases this
    have take : ∀ (z : Row) (l : List Row), RSort (z :: l) → (rowSays z ++ l.flatMap rowSays).takeWhile (fun s => decide (s.Name = z.Name)) = rowSays z ∧ (rowSays z ++ l.flatMap rowSays).dropWhile (fun s => decide (s.Name = z.Name)) = l.flatMap rowSays := by
      intro z l hl
      have h1 : ∀ s, s ∈ rowSays z → decide (s.Name = z.Name) = true := fun s hs => by
        obtain ⟨q, hq, rfl⟩ := List.mem_map.1 hs
        simp
      have h2 := later hl
      rw [List.takeWhile_append_of_pos h1, List.dropWhile_append_of_pos h1]
      cases hc : l.flatMap rowSays with
      | nil => simp
      | cons s t =>
        have := h2 s (by rw [hc]; exact List.mem_cons_self ..)
        rw [List.takeWhile_cons_of_neg (by simpa using this), List.dropWhile_cons_of_neg (by simpa using this)]
        simp
    have hx := take x a sa
    have hy := take y b sb
    rw [h, hname] at hx
    have e1 := hx.1.symm.trans hy.1
    have e2 := hx.2.symm.trans hy.2
    have ea := rows_inj sa.tail sb.tail (fun r hr => ha r (List.mem_cons_of_mem _ hr)) (fun r hr => hb r (List.mem_cons_of_mem _ hr)) e2
    have es : x.Samples = y.Samples := by
      have := congrArg (List.map fun (s : Say) => (⟨s.At, s.Value⟩ : Sample)) e1
      unfold rowSays at this
      simpa [Function.comp_def] using this
    cases x; cases y
    simp only at hname es
    subst hname; subst es; subst ea
    rfl
theorem headTxt_inj {a b : Head} (ha : HeadOk a) (hb : HeadOk b) (h : headTxt a = headTxt b) : a = b := by
  have h1 : headL a = headL b := by
    have := congrArg (fun s : ByteArray => s.data.toList) h
    simpa [headTxt] using this
  unfold headL at h1
  have ca := splitL_cut (r := (headSays a).flatMap lineL) (itoa_no a.Offset 10 (by decide))
  have cb := splitL_cut (r := (headSays b).flatMap lineL) (itoa_no b.Offset 10 (by decide))
  rw [h1, cb, List.cons.injEq] at ca
  have e1 := itoa_inj ca.1
  rw [e1] at h1
  have h2 := List.append_cancel_left h1
  rw [List.cons.injEq] at h2
  have e2 := rows_inj ha.srt hb.srt (fun r hr => (ha.row r hr).2.1) (fun r hr => (hb.row r hr).2.1) (lines_inj ha.says hb.says h2.2)
  cases a; cases b
  simp only at e1 e2
  rw [e1, e2]
/-- heads that measurements make are good -/
theorem HeadOk.zero : HeadOk ⟨[], 0⟩ := ⟨fun i j x y _ h => by simp at h, fun r h => by simp at h, Nat.zero_le _, by decide⟩
end Pl
end Go.Proofs.YtbhmdnjammnlnaaGreatDoor
