/-
  Owned slices, marked element by element: a cell of an element stored, the inside of an element changed. No program in sight. No conditions.
-/
import Derived.Test.YtaepohocabealaaBk
namespace Go.Proofs.Ytaepohocabealaa
open Go.RowKit
namespace Mm

def mkL {α : Type} (mk : α → Int → α) (cnt : α → Int) : List α → Int → List α
  | [], _ => []
  | x :: t, k => mk x k :: mkL mk cnt t (k + cnt x)
def cntL {α : Type} (cnt : α → Int) : List α → Int
  | [] => 0
  | x :: t => cnt x + cntL cnt t
section
variable {α : Type} {mk : α → Int → α} {cnt : α → Int}
theorem mkL_cons (x : α) (t : List α) (k : Int) : mkL mk cnt (x :: t) k = mk x k :: mkL mk cnt t (k + cnt x) := rfl
theorem cntL_cons (x : α) (t : List α) : cntL cnt (x :: t) = cnt x + cntL cnt t := rfl
theorem mkL_len : ∀ (l : List α) (k : Int), (mkL mk cnt l k).length = l.length
  | [], _ => rfl
  | x :: t, k => by rw [mkL_cons, List.length_cons, mkL_len t, List.length_cons]
theorem cntL_app : ∀ (l m : List α), cntL cnt (l ++ m) = cntL cnt l + cntL cnt m
  | [], m => by simp [cntL]
  | x :: t, m => by rw [List.cons_append, cntL_cons, cntL_cons, cntL_app t m]; omega
theorem cntL_nn (h : ∀ x, 0 ≤ cnt x) : ∀ l : List α, 0 ≤ cntL cnt l
  | [] => by simp [cntL]
  | x :: t => by have := cntL_nn h t; have := h x; rw [cntL_cons]; omega
theorem mkL_app : ∀ (l m : List α) (k : Int), mkL mk cnt (l ++ m) k = mkL mk cnt l k ++ mkL mk cnt m (k + cntL cnt l)
  | [], m, k => by simp [mkL, cntL]
  | x :: t, m, k => by
    rw [List.cons_append, mkL_cons, mkL_cons, mkL_app t m, List.cons_append, cntL_cons]
    rw [show k + (cnt x + cntL cnt t) = k + cnt x + cntL cnt t by omega]
theorem take_succ_some {l : List α} {i : Nat} {x : α} (h : l[i]? = some x) : l.take (i + 1) = l.take i ++ [x] := by
  have hi : i < l.length := (List.getElem?_eq_some_iff.1 h).1
  rw [List.take_succ_eq_append_getElem hi]
  rw [List.getElem?_eq_getElem hi] at h
  injection h with h
  rw [h]
theorem cntL_succ {l : List α} {i : Nat} {x : α} (h : l[i]? = some x) : cntL cnt (l.take (i + 1)) = cntL cnt (l.take i) + cnt x := by
  rw [take_succ_some h, cntL_app]; simp [cntL]
theorem cntL_take_le (hn : ∀ x, 0 ≤ cnt x) (l : List α) (i : Nat) : cntL cnt (l.take i) ≤ cntL cnt l := by
  have h : cntL cnt l = cntL cnt (l.take i) + cntL cnt (l.drop i) := by rw [← cntL_app, List.take_append_drop]
  have := cntL_nn hn (l.drop i)
  omega
theorem mkL_get : ∀ {l : List α} {i : Nat} {x : α} {k : Int}, l[i]? = some x → (mkL mk cnt l k)[i]? = some (mk x (k + cntL cnt (l.take i)))
  | [], i, x, k, h => by simp at h
  | y :: t, 0, x, k, h => by
    simp at h
    subst h
    simp [mkL, cntL]
  | y :: t, i + 1, x, k, h => by
    have := mkL_get (l := t) (i := i) (x := x) (k := k + cnt y) (by simpa using h)
    rw [mkL_cons, List.getElem?_cons_succ, this, List.take_succ_cons, cntL_cons]
    rw [show k + (cnt y + cntL cnt (t.take i)) = k + cnt y + cntL cnt (t.take i) by omega]
/-- the first i are marked -/
def half (mk : α → Int → α) (cnt : α → Int) (l : List α) (k : Int) (i : Nat) : List α := mkL mk cnt (l.take i) k ++ l.drop i
theorem half_zero (l : List α) (k : Int) : half mk cnt l k 0 = l := by simp [half, mkL]
theorem half_end {l : List α} {k : Int} {i : Nat} (h : l.length ≤ i) : half mk cnt l k i = mkL mk cnt l k := by
  unfold half; rw [List.take_of_length_le h, List.drop_eq_nil_of_le h, List.append_nil]
theorem half_len (l : List α) (k : Int) (i : Nat) : (half mk cnt l k i).length = l.length := by
  unfold half; rw [List.length_append, mkL_len, List.length_take, List.length_drop]; omega
theorem half_get {l : List α} {k : Int} {i : Nat} {x : α} (h : l[i]? = some x) : (half mk cnt l k i)[i]? = some x := by
  have hi : i < l.length := (List.getElem?_eq_some_iff.1 h).1
  have hl : (mkL mk cnt (l.take i) k).length = i := by rw [mkL_len, List.length_take]; omega
  unfold half
  rw [List.getElem?_append_right (by omega), hl, Nat.sub_self, List.getElem?_drop, Nat.add_zero, h]
theorem half_set {l : List α} {k : Int} {i : Nat} {x : α} (h : l[i]? = some x) : (half mk cnt l k i).set i (mk x (k + cntL cnt (l.take i))) = half mk cnt l k (i + 1) := by
  have hi : i < l.length := (List.getElem?_eq_some_iff.1 h).1
  have hl : (mkL mk cnt (l.take i) k).length = i := by rw [mkL_len, List.length_take]; omega
  have hd : l.drop i = x :: l.drop (i + 1) := by
    rw [List.drop_eq_getElem_cons hi]
    rw [List.getElem?_eq_getElem hi] at h
    injection h with h
    rw [h]
  unfold half
  rw [List.set_append, if_neg (by omega), hl, Nat.sub_self, hd, List.set_cons_zero, take_succ_some h, mkL_app, List.append_assoc]
  simp [mkL]
end

section
variable {α : Type} {E : Rep α} {e : TypeId} {w w' : World} {xs : List α} {fp : List Nat}

theorem cell_sp {w : World} {g a a' : Nat} {u : Option Value} (h : w.cell? ⟨g, a, none⟩ = u) (e : a = a') : w.cell? ⟨g, a', none⟩ = u := e ▸ h
theorem setList_one (l : List Value) (o : Nat) (u : Value) : setList l o [u] = l.set o u := rfl
/-- one cell of element i is stored into -/
theorem SlOwn.store {g n c : Nat} (h : SlOwn E e w xs (.slice (some ⟨g, 0, none⟩) n c) fp) (hnd : fp.Nodup) {i j : Nat} {x x' : α} {u : Value} (hi : xs[i]? = some x) (hj : j < E.size)
    (hx : ∀ cs fx, E.own w x cs fx → E.own w x' (cs.set j u) fx) : SlOwn E e (w.setCell ⟨g, i * E.size + j, none⟩ u) (xs.set i x') (.slice (some ⟨g, 0, none⟩) n c) fp := by
  obtain ⟨es, he, ho, rfl⟩ := h
  have hn : n = xs.length := by
    rcases ho.2 with ⟨h, _⟩ | ⟨g', cap, cur, h, _⟩
    · cases h
    · injection h
  subst hn
  have hil : i < xs.length := (List.getElem?_eq_some_iff.1 hi).1
  have hie : i < es.length := by rw [he.1]; exact hil
  have hy := List.getElem?_eq_getElem hie
  have hown := he.2 i x _ hi hy
  have hgn : ∀ y ∈ es, g ∉ y.2 := fun y hy hg => by
    simp only [Value.ownBlock, Option.toList_some, List.singleton_append, List.nodup_cons] at hnd
    exact hnd.1 (List.mem_flatMap.2 ⟨y, hy, hg⟩)
  have hk : ∀ b, b ≠ g → (w.setCell ⟨g, i * E.size + j, none⟩ u).heap[b]? = w.heap[b]? := fun b hb => Below.heap_setCell _ _ _ _ hb
  have hnew : E.own w x' (es[i].1.set j u) es[i].2 := hx _ _ hown
  have hes2 : (es.set i (es[i].1.set j u, es[i].2)).flatMap (·.2) = es.flatMap (·.2) := by
    have e2 : es.set i (es[i].1.set j u, es[i].2) = es.take i ++ (es[i].1.set j u, es[i].2) :: es.drop (i + 1) := List.set_eq_take_append_cons_drop.trans (by rw [if_pos hie])
    have e1 : es = es.take i ++ es[i] :: es.drop (i + 1) := by rw [← List.drop_eq_getElem_cons hie, List.take_append_drop]
    have e3 := congrArg (List.flatMap (·.2)) e1
    rw [List.flatMap_append, List.flatMap_cons] at e3
    rw [e2, List.flatMap_append, List.flatMap_cons]
    exact e3.symm
  refine ⟨es.set i (es[i].1.set j u, es[i].2), ⟨by rw [List.length_set, List.length_set, he.1], fun k y z hy hz => ?_⟩, ?_, by rw [hes2]⟩
  · by_cases hki : i = k
    · subst hki
      rw [List.getElem?_set_self hie] at hz
      rw [List.getElem?_set_self hil] at hy
      injection hy with hy; injection hz with hz
      subst hy; subst hz
      exact E.okeep hnew fun b hb => hk b (fun e => hgn _ (List.getElem_mem hie) (e ▸ hb))
    · rw [List.getElem?_set_ne hki] at hz hy
      exact E.okeep (he.2 k y z hy hz) fun b hb => hk b (fun e => hgn z (List.mem_of_getElem? hz) (e ▸ hb))
  · rw [List.length_set]
    have h1 := (ho.stored (i * E.size + j) u).1
    have hll := setList_elems E.size es i (es[i].1.set j u) es[i].2 he.len (by rw [List.length_set]; exact E.olen hown) hie
    rw [← hll]
    -- the whole element's cells, but for j, are what they were
    have hs : setList (es.flatMap (·.1)) (i * E.size) (es[i].1.set j u) = (es.flatMap (·.1)).set (i * E.size + j) u := by
      have hlen : (es.flatMap (·.1)).length = xs.length * E.size := ho.1
      have hle : i * E.size + E.size ≤ xs.length * E.size := by
        have := Nat.mul_le_mul_right E.size (show i + 1 ≤ xs.length by omega)
        rw [Nat.add_mul] at this; omega
      have hol := E.olen hown
      apply List.ext_getElem?
      intro k
      rw [setList_get _ _ _ _ (by rw [List.length_set, hol, hlen]; exact hle), List.length_set, hol]
      by_cases hkk : i * E.size ≤ k ∧ k < i * E.size + E.size
      · rw [if_pos hkk]
        by_cases hkj : k = i * E.size + j
        · subst hkj
          rw [show i * E.size + j - i * E.size = j by omega, List.getElem?_set_self (by omega), List.getElem?_set_self (by omega)]
        · rw [List.getElem?_set_ne (by omega), List.getElem?_set_ne (by omega)]
          have hu := List.getElem?_eq_getElem (show k - i * E.size < es[i].1.length by omega)
          have := flatMap_get (·.1) E.size es he.len i _ (k - i * E.size) _ hy hu
          rw [show i * E.size + (k - i * E.size) = k by omega] at this
          rw [this, hu]
      · rw [if_neg hkk, List.getElem?_set_ne (by omega)]
    rw [hs]
    exact h1
/-- the inside of element i: what it owns; and the whole, once that has changed -/
theorem SlOwn.inner {g n c : Nat} (h : SlOwn E e w xs (.slice (some ⟨g, 0, none⟩) n c) fp) (hnd : fp.Nodup) {i : Nat} {x : α} (hi : xs[i]? = some x) :
    ∃ cs fx, E.own w x cs fx ∧ fx.Nodup ∧ (∀ b, b ∈ fx → b ∈ fp ∧ b ≠ g) ∧ (∀ j u, cs[j]? = some u → w.cell? ⟨g, i * E.size + j, none⟩ = some u) ∧
      ∀ w' x' fx', Chg fx w w' → E.own w' x' cs fx' → fx'.Nodup → (∀ b, b ∈ fx' → b ∈ fx) → ∃ fp', SlOwn E e w' (xs.set i x') (.slice (some ⟨g, 0, none⟩) n c) fp' ∧ fp'.Nodup ∧ ∀ b, b ∈ fp' → b ∈ fp := by
  obtain ⟨es, he, ho, rfl⟩ := h
  have hn : n = xs.length := by
    rcases ho.2 with ⟨h, _⟩ | ⟨g', cap, cur, h, _⟩
    · cases h
    · injection h
  subst hn
  have hil : i < xs.length := (List.getElem?_eq_some_iff.1 hi).1
  have hie : i < es.length := by rw [he.1]; exact hil
  have hy := List.getElem?_eq_getElem hie
  have hown := he.2 i x _ hi hy
  simp only [Value.ownBlock, Option.toList_some, List.singleton_append, List.nodup_cons] at hnd
  have hgn : ∀ y ∈ es, g ∉ y.2 := fun y hy hg => hnd.1 (List.mem_flatMap.2 ⟨y, hy, hg⟩)
  have e1 : es = es.take i ++ es[i] :: es.drop (i + 1) := by rw [← List.drop_eq_getElem_cons hie, List.take_append_drop]
  have hd := hnd.2
  rw [e1] at hd
  simp only [List.flatMap_append, List.flatMap_cons, List.nodup_append] at hd
  have hmem : ∀ b, b ∈ es[i].2 → b ∈ es.flatMap (·.2) := fun b hb => List.mem_flatMap.2 ⟨_, List.getElem_mem hie, hb⟩
  refine ⟨es[i].1, es[i].2, hown, hd.2.1.1, fun b hb => ⟨List.mem_append_right _ (hmem b hb), fun e => hgn _ (List.getElem_mem hie) (e ▸ hb)⟩, fun j u hu => ?_, fun w' x' fx' hc hx' hxn hxs => ?_⟩
  · have := ho.cells (g := g) rfl (i * E.size + j) u (flatMap_get (·.1) E.size es he.len i _ j u hy hu)
    rw [add0] at this
    exact this
  · have m1 : ∀ y, y ∈ es.take i → ∀ b, b ∈ y.2 → b ∉ es[i].2 := fun y hy b hb hm => hd.2.2 b (List.mem_flatMap.2 ⟨y, hy, hb⟩) b (List.mem_append_left _ hm) rfl
    have m2 : ∀ y, y ∈ es.drop (i + 1) → ∀ b, b ∈ y.2 → b ∉ es[i].2 := fun y hy b hb hm => hd.2.1.2.2 b hm b (List.mem_flatMap.2 ⟨y, hy, hb⟩) rfl
    have e2 : es.set i (es[i].1, fx') = es.take i ++ (es[i].1, fx') :: es.drop (i + 1) := List.set_eq_take_append_cons_drop.trans (by rw [if_pos hie])
    have hfl : (es.set i (es[i].1, fx')).flatMap (·.1) = es.flatMap (·.1) := by
      have e3 := congrArg (List.flatMap (·.1)) e1
      rw [List.flatMap_append, List.flatMap_cons] at e3
      rw [e2, List.flatMap_append, List.flatMap_cons]
      exact e3.symm
    have hsub : ∀ b, b ∈ (es.set i (es[i].1, fx')).flatMap (·.2) → b ∈ es.flatMap (·.2) := by
      intro b hb
      obtain ⟨y, hy, hb⟩ := List.mem_flatMap.1 hb
      rcases List.mem_or_eq_of_mem_set hy with h | rfl
      · exact List.mem_flatMap.2 ⟨y, h, hb⟩
      · exact hmem b (hxs b hb)
    have hlt : g < w.heap.size := by
      have := ho.lt g (by simp [Value.ownBlock])
      exact this.2
    refine ⟨_, ⟨es.set i (es[i].1, fx'), ⟨by rw [List.length_set, List.length_set, he.1], fun k y z hy hz => ?_⟩, ⟨?_, ?_⟩, rfl⟩, ?_, ?_⟩
    · by_cases hki : i = k
      · subst hki
        rw [List.getElem?_set_self hie] at hz
        rw [List.getElem?_set_self hil] at hy
        injection hy with hy; injection hz with hz
        subst hy; subst hz
        exact hx'
      · rw [List.getElem?_set_ne hki] at hz hy
        have hk := he.2 k y z hy hz
        refine E.okeep hk fun b hb => hc.block b (E.olt hk b hb) ?_
        have hkl : k < es.length := (List.getElem?_eq_some_iff.1 hz).1
        rcases Nat.lt_or_gt_of_ne hki with h | h
        · refine m2 z (List.mem_of_getElem? (i := k - (i + 1)) ?_) b hb
          rw [List.getElem?_drop, show i + 1 + (k - (i + 1)) = k by omega]
          exact hz
        · refine m1 z (List.mem_of_getElem? (i := k) ?_) b hb
          rw [List.getElem?_take, if_pos h]
          exact hz
    · rw [hfl, List.length_set]; exact ho.1
    · rw [hfl, List.length_set]
      rcases ho.2 with h | ⟨g', cap, cur, hv, h1, h2, h3⟩
      · exact .inl h
      · injection hv with hA _ hcap
        subst hcap
        injection hA with hA
        injection hA with hA
        subst hA
        exact .inr ⟨g, _, cur, rfl, h1, (hc.block g hlt (hgn _ (List.getElem_mem hie))).trans h2, h3⟩
    · simp only [Value.ownBlock, Option.toList_some, List.singleton_append, List.nodup_cons]
      refine ⟨fun hg => hnd.1 (hsub g hg), ?_⟩
      rw [e2]
      simp only [List.flatMap_append, List.flatMap_cons, List.nodup_append]
      refine ⟨hd.1, ⟨hxn, hd.2.1.2.1, fun a ha b hb hab => ?_⟩, fun a ha b hb hab => ?_⟩
      · exact hd.2.1.2.2 a (hxs a ha) b hb hab
      · rcases List.mem_append.1 hb with hb | hb
        · exact hd.2.2 a ha b (List.mem_append_left _ (hxs b hb)) hab
        · exact hd.2.2 a ha b (List.mem_append_right _ hb) hab
    · intro b hb
      rcases List.mem_append.1 hb with hb | hb
      · exact List.mem_append_left _ hb
      · exact List.mem_append_right _ (hsub b hb)
end
/-- in the middle of a marking -/
def MkAt {α : Type} (E : Rep α) (t : TypeId) (mk : α → Int → α) (cnt : α → Int) (w : World) (l : List α) (v : Value) (fp : List Nat) (k : Int) (i : Nat) (wr : World) : Prop :=
  Chg fp w wr ∧ ∃ fp', SlOwn E t wr (half mk cnt l k i) v fp' ∧ fp'.Nodup ∧ ∀ b, b ∈ fp' → b ∈ fp
/-- what a marking leaves -/
def MkRet {α : Type} (E : Rep α) (t : TypeId) (mk : α → Int → α) (cnt : α → Int) (w : World) (l : List α) (v : Value) (fp : List Nat) (k : Int) (e : Ending) (w' : World) : Prop :=
  e = .returned (.int .i64 (k + cntL cnt l)) ∧ Chg fp w w' ∧ ∃ fp', SlOwn E t w' (mkL mk cnt l k) v fp' ∧ fp'.Nodup ∧ ∀ b, b ∈ fp' → b ∈ fp
section
variable {α : Type} {E : Rep α} {t : TypeId} {mk : α → Int → α} {cnt : α → Int} {w wr : World} {l : List α} {v : Value} {fp : List Nat} {k : Int} {i : Nat}
theorem MkAt.start (h : SlOwn E t w l v fp) (hnd : fp.Nodup) : MkAt E t mk cnt w l v fp k 0 w := ⟨Chg.refl _ _, fp, by rw [half_zero]; exact h, hnd, fun b hb => hb⟩
theorem MkAt.done (h : MkAt E t mk cnt w l v fp k i wr) (hi : l.length ≤ i) : MkRet E t mk cnt w l v fp k (.returned (.int .i64 (k + cntL cnt (l.take i)))) wr := by
  obtain ⟨h1, fp', h2, h3, h4⟩ := h
  rw [half_end hi] at h2
  rw [List.take_of_length_le hi]
  exact ⟨rfl, h1, fp', h2, h3, h4⟩
end
/-- what the marking of a whole struct leaves -/
def MkTop {α : Type} (R : Rep α) (top : α → Int → α) (ctop : α → Int) (w : World) (x : α) (cs : List Value) (fp : List Nat) (k : Int) (e : Ending) (w' : World) : Prop :=
  e = .returned (.int .i64 (k + ctop x)) ∧ Chg fp w w' ∧ ∃ fp', R.own w' (top x k) cs fp' ∧ fp'.Nodup ∧ ∀ b, b ∈ fp' → b ∈ fp
theorem und_chg {fp : List Nat} {a b c : World} (h : Chg fp a b) (k : Below b.heap.size b c) : Chg fp a c := h.trans (Chg.of_below k)
end Mm
end Go.Proofs.Ytaepohocabealaa
