/-
  Joined texts, in build order: Ox, Mk, Ty, Op, Qt, Wq, Ac, Cl, Se, Sf, Sx. Each part says what it proves; no conditions beyond those that a part names.
-/
import Derived.Test.YtnppcdiicnofpaaZ01
import Derived.ProofKit
import Derived.OpenShut
import Derived.Deep.Slices
import Derived.StillTail
import Derived.Lib.Hide
import Derived.Deep.DeepCutAuto
/-
  Owned slices, marked element by element: a cell of an element stored, the inside of an element changed. No program in sight. No conditions.
-/
namespace Go.Proofs.Ytnppcdiicnofpaa
open Go.RowKit
namespace Mm

def mkL {α : Type} (mk : α → Int → α) (cnt : α → Int) : List α → Int → List α
  | [], _ => []
  | x :: t, k => mk x k :: mkL mk cnt t (k + cnt x)
def cntL {α : Type} (cnt : α → Int) : List α → Int
  | [] => 0
  | x :: t => cnt x + cntL cnt t
section
variable {α : Type} {mk : α → Int → α} {cnt : α → Int}
theorem mkL_cons (x : α) (t : List α) (k : Int) : mkL mk cnt (x :: t) k = mk x k :: mkL mk cnt t (k + cnt x) := rfl
theorem cntL_cons (x : α) (t : List α) : cntL cnt (x :: t) = cnt x + cntL cnt t := rfl
theorem mkL_len : ∀ (l : List α) (k : Int), (mkL mk cnt l k).length = l.length
  | [], _ => rfl
  | x :: t, k => by rw [mkL_cons, List.length_cons, mkL_len t, List.length_cons]
theorem cntL_app : ∀ (l m : List α), cntL cnt (l ++ m) = cntL cnt l + cntL cnt m
  | [], m => by simp [cntL]
  | x :: t, m => by rw [List.cons_append, cntL_cons, cntL_cons, cntL_app t m]; omega
theorem cntL_nn (h : ∀ x, 0 ≤ cnt x) : ∀ l : List α, 0 ≤ cntL cnt l
  | [] => by simp [cntL]
  | x :: t => by have := cntL_nn h t; have := h x; rw [cntL_cons]; omega
theorem mkL_app : ∀ (l m : List α) (k : Int), mkL mk cnt (l ++ m) k = mkL mk cnt l k ++ mkL mk cnt m (k + cntL cnt l)
  | [], m, k => by simp [mkL, cntL]
  | x :: t, m, k => by
    rw [List.cons_append, mkL_cons, mkL_cons, mkL_app t m, List.cons_append, cntL_cons]
    rw [show k + (cnt x + cntL cnt t) = k + cnt x + cntL cnt t by omega]
theorem take_succ_some {l : List α} {i : Nat} {x : α} (h : l[i]? = some x) : l.take (i + 1) = l.take i ++ [x] := by
  have hi : i < l.length := (List.getElem?_eq_some_iff.1 h).1
  rw [List.take_succ_eq_append_getElem hi]
  rw [List.getElem?_eq_getElem hi] at h
  injection h with h
  rw [h]
theorem cntL_succ {l : List α} {i : Nat} {x : α} (h : l[i]? = some x) : cntL cnt (l.take (i + 1)) = cntL cnt (l.take i) + cnt x := by
  rw [take_succ_some h, cntL_app]; simp [cntL]
theorem cntL_take_le (hn : ∀ x, 0 ≤ cnt x) (l : List α) (i : Nat) : cntL cnt (l.take i) ≤ cntL cnt l := by
  have h : cntL cnt l = cntL cnt (l.take i) + cntL cnt (l.drop i) := by rw [← cntL_app, List.take_append_drop]
  have := cntL_nn hn (l.drop i)
  omega
theorem mkL_get : ∀ {l : List α} {i : Nat} {x : α} {k : Int}, l[i]? = some x → (mkL mk cnt l k)[i]? = some (mk x (k + cntL cnt (l.take i)))
  | [], i, x, k, h => by simp at h
  | y :: t, 0, x, k, h => by
    simp at h
    subst h
    simp [mkL, cntL]
  | y :: t, i + 1, x, k, h => by
    have := mkL_get (l := t) (i := i) (x := x) (k := k + cnt y) (by simpa using h)
    rw [mkL_cons, List.getElem?_cons_succ, this, List.take_succ_cons, cntL_cons]
    rw [show k + (cnt y + cntL cnt (t.take i)) = k + cnt y + cntL cnt (t.take i) by omega]
/-- the first i are marked -/
def half (mk : α → Int → α) (cnt : α → Int) (l : List α) (k : Int) (i : Nat) : List α := mkL mk cnt (l.take i) k ++ l.drop i
theorem half_zero (l : List α) (k : Int) : half mk cnt l k 0 = l := by simp [half, mkL]
theorem half_end {l : List α} {k : Int} {i : Nat} (h : l.length ≤ i) : half mk cnt l k i = mkL mk cnt l k := by
  unfold half; rw [List.take_of_length_le h, List.drop_eq_nil_of_le h, List.append_nil]
theorem half_len (l : List α) (k : Int) (i : Nat) : (half mk cnt l k i).length = l.length := by
  unfold half; rw [List.length_append, mkL_len, List.length_take, List.length_drop]; omega
theorem half_get {l : List α} {k : Int} {i : Nat} {x : α} (h : l[i]? = some x) : (half mk cnt l k i)[i]? = some x := by
  have hi : i < l.length := (List.getElem?_eq_some_iff.1 h).1
  have hl : (mkL mk cnt (l.take i) k).length = i := by rw [mkL_len, List.length_take]; omega
  unfold half
  rw [List.getElem?_append_right (by omega), hl, Nat.sub_self, List.getElem?_drop, Nat.add_zero, h]
theorem half_set {l : List α} {k : Int} {i : Nat} {x : α} (h : l[i]? = some x) : (half mk cnt l k i).set i (mk x (k + cntL cnt (l.take i))) = half mk cnt l k (i + 1) := by
  have hi : i < l.length := (List.getElem?_eq_some_iff.1 h).1
  have hl : (mkL mk cnt (l.take i) k).length = i := by rw [mkL_len, List.length_take]; omega
  have hd : l.drop i = x :: l.drop (i + 1) := by
    rw [List.drop_eq_getElem_cons hi]
    rw [List.getElem?_eq_getElem hi] at h
    injection h with h
    rw [h]
  unfold half
  rw [List.set_append, if_neg (by omega), hl, Nat.sub_self, hd, List.set_cons_zero, take_succ_some h, mkL_app, List.append_assoc]
  simp [mkL]
end

section
variable {α : Type} {E : Rep α} {e : TypeId} {w w' : World} {xs : List α} {fp : List Nat}

theorem cell_sp {w : World} {g a a' : Nat} {u : Option Value} (h : w.cell? ⟨g, a, none⟩ = u) (e : a = a') : w.cell? ⟨g, a', none⟩ = u := e ▸ h
theorem setList_one (l : List Value) (o : Nat) (u : Value) : setList l o [u] = l.set o u := rfl
/-- one cell of element i is stored into -/
theorem SlOwn.store {g n c : Nat} (h : SlOwn E e w xs (.slice (some ⟨g, 0, none⟩) n c) fp) (hnd : fp.Nodup) {i j : Nat} {x x' : α} {u : Value} (hi : xs[i]? = some x) (hj : j < E.size)
    (hx : ∀ cs fx, E.own w x cs fx → E.own w x' (cs.set j u) fx) : SlOwn E e (w.setCell ⟨g, i * E.size + j, none⟩ u) (xs.set i x') (.slice (some ⟨g, 0, none⟩) n c) fp := by
  obtain ⟨es, he, ho, rfl⟩ := h
  have hn : n = xs.length := by
    rcases ho.2 with ⟨h, _⟩ | ⟨g', cap, cur, h, _⟩
    · cases h
    · injection h
  subst hn
  have hil : i < xs.length := (List.getElem?_eq_some_iff.1 hi).1
  have hie : i < es.length := by rw [he.1]; exact hil
  have hy := List.getElem?_eq_getElem hie
  have hown := he.2 i x _ hi hy
  have hgn : ∀ y ∈ es, g ∉ y.2 := fun y hy hg => by
    simp only [Value.ownBlock, Option.toList_some, List.singleton_append, List.nodup_cons] at hnd
    exact hnd.1 (List.mem_flatMap.2 ⟨y, hy, hg⟩)
  have hk : ∀ b, b ≠ g → (w.setCell ⟨g, i * E.size + j, none⟩ u).heap[b]? = w.heap[b]? := fun b hb => Below.heap_setCell _ _ _ _ hb
  have hnew : E.own w x' (es[i].1.set j u) es[i].2 := hx _ _ hown
  have hes2 : (es.set i (es[i].1.set j u, es[i].2)).flatMap (·.2) = es.flatMap (·.2) := by
    have e2 : es.set i (es[i].1.set j u, es[i].2) = es.take i ++ (es[i].1.set j u, es[i].2) :: es.drop (i + 1) := List.set_eq_take_append_cons_drop.trans (by rw [if_pos hie])
    have e1 : es = es.take i ++ es[i] :: es.drop (i + 1) := by rw [← List.drop_eq_getElem_cons hie, List.take_append_drop]
    have e3 := congrArg (List.flatMap (·.2)) e1
    rw [List.flatMap_append, List.flatMap_cons] at e3
    rw [e2, List.flatMap_append, List.flatMap_cons]
    exact e3.symm
  refine ⟨es.set i (es[i].1.set j u, es[i].2), ⟨by rw [List.length_set, List.length_set, he.1], fun k y z hy hz => ?_⟩, ?_, by rw [hes2]⟩
  · by_cases hki : i = k
    · subst hki
      rw [List.getElem?_set_self hie] at hz
      rw [List.getElem?_set_self hil] at hy
      injection hy with hy; injection hz with hz
      subst hy; subst hz
      exact E.okeep hnew fun b hb => hk b (fun e => hgn _ (List.getElem_mem hie) (e ▸ hb))
    · rw [List.getElem?_set_ne hki] at hz hy
      exact E.okeep (he.2 k y z hy hz) fun b hb => hk b (fun e => hgn z (List.mem_of_getElem? hz) (e ▸ hb))
  · rw [List.length_set]
    have h1 := (ho.stored (i * E.size + j) u).1
    have hll := setList_elems E.size es i (es[i].1.set j u) es[i].2 he.len (by rw [List.length_set]; exact E.olen hown) hie
    rw [← hll]
    -- the whole element's cells, but for j, are what they were
    have hs : setList (es.flatMap (·.1)) (i * E.size) (es[i].1.set j u) = (es.flatMap (·.1)).set (i * E.size + j) u := by
      have hlen : (es.flatMap (·.1)).length = xs.length * E.size := ho.1
      have hle : i * E.size + E.size ≤ xs.length * E.size := by
        have := Nat.mul_le_mul_right E.size (show i + 1 ≤ xs.length by omega)
        rw [Nat.add_mul] at this; omega
      have hol := E.olen hown
      apply List.ext_getElem?
      intro k
      rw [setList_get _ _ _ _ (by rw [List.length_set, hol, hlen]; exact hle), List.length_set, hol]
      by_cases hkk : i * E.size ≤ k ∧ k < i * E.size + E.size
      · rw [if_pos hkk]
        by_cases hkj : k = i * E.size + j
        · subst hkj
          rw [show i * E.size + j - i * E.size = j by omega, List.getElem?_set_self (by omega), List.getElem?_set_self (by omega)]
        · rw [List.getElem?_set_ne (by omega), List.getElem?_set_ne (by omega)]
          have hu := List.getElem?_eq_getElem (show k - i * E.size < es[i].1.length by omega)
          have := flatMap_get (·.1) E.size es he.len i _ (k - i * E.size) _ hy hu
          rw [show i * E.size + (k - i * E.size) = k by omega] at this
          rw [this, hu]
      · rw [if_neg hkk, List.getElem?_set_ne (by omega)]
    rw [hs]
    exact h1
/-- the inside of element i: what it owns; and the whole, once that has changed -/
theorem SlOwn.inner {g n c : Nat} (h : SlOwn E e w xs (.slice (some ⟨g, 0, none⟩) n c) fp) (hnd : fp.Nodup) {i : Nat} {x : α} (hi : xs[i]? = some x) :
    ∃ cs fx, E.own w x cs fx ∧ fx.Nodup ∧ (∀ b, b ∈ fx → b ∈ fp ∧ b ≠ g) ∧ (∀ j u, cs[j]? = some u → w.cell? ⟨g, i * E.size + j, none⟩ = some u) ∧
      ∀ w' x' fx', Chg fx w w' → E.own w' x' cs fx' → fx'.Nodup → (∀ b, b ∈ fx' → b ∈ fx) → ∃ fp', SlOwn E e w' (xs.set i x') (.slice (some ⟨g, 0, none⟩) n c) fp' ∧ fp'.Nodup ∧ ∀ b, b ∈ fp' → b ∈ fp := by
  obtain ⟨es, he, ho, rfl⟩ := h
  have hn : n = xs.length := by
    rcases ho.2 with ⟨h, _⟩ | ⟨g', cap, cur, h, _⟩
    · cases h
    · injection h
  subst hn
  have hil : i < xs.length := (List.getElem?_eq_some_iff.1 hi).1
  have hie : i < es.length := by rw [he.1]; exact hil
  have hy := List.getElem?_eq_getElem hie
  have hown := he.2 i x _ hi hy
  simp only [Value.ownBlock, Option.toList_some, List.singleton_append, List.nodup_cons] at hnd
  have hgn : ∀ y ∈ es, g ∉ y.2 := fun y hy hg => hnd.1 (List.mem_flatMap.2 ⟨y, hy, hg⟩)
  have e1 : es = es.take i ++ es[i] :: es.drop (i + 1) := by rw [← List.drop_eq_getElem_cons hie, List.take_append_drop]
  have hd := hnd.2
  rw [e1] at hd
  simp only [List.flatMap_append, List.flatMap_cons, List.nodup_append] at hd
  have hmem : ∀ b, b ∈ es[i].2 → b ∈ es.flatMap (·.2) := fun b hb => List.mem_flatMap.2 ⟨_, List.getElem_mem hie, hb⟩
  refine ⟨es[i].1, es[i].2, hown, hd.2.1.1, fun b hb => ⟨List.mem_append_right _ (hmem b hb), fun e => hgn _ (List.getElem_mem hie) (e ▸ hb)⟩, fun j u hu => ?_, fun w' x' fx' hc hx' hxn hxs => ?_⟩
  · have := ho.cells (g := g) rfl (i * E.size + j) u (flatMap_get (·.1) E.size es he.len i _ j u hy hu)
    rw [add0] at this
    exact this
  · have m1 : ∀ y, y ∈ es.take i → ∀ b, b ∈ y.2 → b ∉ es[i].2 := fun y hy b hb hm => hd.2.2 b (List.mem_flatMap.2 ⟨y, hy, hb⟩) b (List.mem_append_left _ hm) rfl
    have m2 : ∀ y, y ∈ es.drop (i + 1) → ∀ b, b ∈ y.2 → b ∉ es[i].2 := fun y hy b hb hm => hd.2.1.2.2 b hm b (List.mem_flatMap.2 ⟨y, hy, hb⟩) rfl
    have e2 : es.set i (es[i].1, fx') = es.take i ++ (es[i].1, fx') :: es.drop (i + 1) := List.set_eq_take_append_cons_drop.trans (by rw [if_pos hie])
    have hfl : (es.set i (es[i].1, fx')).flatMap (·.1) = es.flatMap (·.1) := by
      have e3 := congrArg (List.flatMap (·.1)) e1
      rw [List.flatMap_append, List.flatMap_cons] at e3
      rw [e2, List.flatMap_append, List.flatMap_cons]
      exact e3.symm
    have hsub : ∀ b, b ∈ (es.set i (es[i].1, fx')).flatMap (·.2) → b ∈ es.flatMap (·.2) := by
      intro b hb
      obtain ⟨y, hy, hb⟩ := List.mem_flatMap.1 hb
      rcases List.mem_or_eq_of_mem_set hy with h | rfl
      · exact List.mem_flatMap.2 ⟨y, h, hb⟩
      · exact hmem b (hxs b hb)
    have hlt : g < w.heap.size := by
      have := ho.lt g (by simp [Value.ownBlock])
      exact this.2
    refine ⟨_, ⟨es.set i (es[i].1, fx'), ⟨by rw [List.length_set, List.length_set, he.1], fun k y z hy hz => ?_⟩, ⟨?_, ?_⟩, rfl⟩, ?_, ?_⟩
    · by_cases hki : i = k
      · subst hki
        rw [List.getElem?_set_self hie] at hz
        rw [List.getElem?_set_self hil] at hy
        injection hy with hy; injection hz with hz
        subst hy; subst hz
        exact hx'
      · rw [List.getElem?_set_ne hki] at hz hy
        have hk := he.2 k y z hy hz
        refine E.okeep hk fun b hb => hc.block b (E.olt hk b hb) ?_
        have hkl : k < es.length := (List.getElem?_eq_some_iff.1 hz).1
        rcases Nat.lt_or_gt_of_ne hki with h | h
        · refine m2 z (List.mem_of_getElem? (i := k - (i + 1)) ?_) b hb
          rw [List.getElem?_drop, show i + 1 + (k - (i + 1)) = k by omega]
          exact hz
        · refine m1 z (List.mem_of_getElem? (i := k) ?_) b hb
          rw [List.getElem?_take, if_pos h]
          exact hz
    · rw [hfl, List.length_set]; exact ho.1
    · rw [hfl, List.length_set]
      rcases ho.2 with h | ⟨g', cap, cur, hv, h1, h2, h3⟩
      · exact .inl h
      · injection hv with hA _ hcap
        subst hcap
        injection hA with hA
        injection hA with hA
        subst hA
        exact .inr ⟨g, _, cur, rfl, h1, (hc.block g hlt (hgn _ (List.getElem_mem hie))).trans h2, h3⟩
    · simp only [Value.ownBlock, Option.toList_some, List.singleton_append, List.nodup_cons]
      refine ⟨fun hg => hnd.1 (hsub g hg), ?_⟩
      rw [e2]
      simp only [List.flatMap_append, List.flatMap_cons, List.nodup_append]
      refine ⟨hd.1, ⟨hxn, hd.2.1.2.1, fun a ha b hb hab => ?_⟩, fun a ha b hb hab => ?_⟩
      · exact hd.2.1.2.2 a (hxs a ha) b hb hab
      · rcases List.mem_append.1 hb with hb | hb
        · exact hd.2.2 a ha b (List.mem_append_left _ (hxs b hb)) hab
        · exact hd.2.2 a ha b (List.mem_append_right _ hb) hab
    · intro b hb
      rcases List.mem_append.1 hb with hb | hb
      · exact List.mem_append_left _ hb
      · exact List.mem_append_right _ (hsub b hb)
end
/-- in the middle of a marking -/
def MkAt {α : Type} (E : Rep α) (t : TypeId) (mk : α → Int → α) (cnt : α → Int) (w : World) (l : List α) (v : Value) (fp : List Nat) (k : Int) (i : Nat) (wr : World) : Prop :=
  Chg fp w wr ∧ ∃ fp', SlOwn E t wr (half mk cnt l k i) v fp' ∧ fp'.Nodup ∧ ∀ b, b ∈ fp' → b ∈ fp
/-- what a marking leaves -/
def MkRet {α : Type} (E : Rep α) (t : TypeId) (mk : α → Int → α) (cnt : α → Int) (w : World) (l : List α) (v : Value) (fp : List Nat) (k : Int) (e : Ending) (w' : World) : Prop :=
  e = .returned (.int .i64 (k + cntL cnt l)) ∧ Chg fp w w' ∧ ∃ fp', SlOwn E t w' (mkL mk cnt l k) v fp' ∧ fp'.Nodup ∧ ∀ b, b ∈ fp' → b ∈ fp
section
variable {α : Type} {E : Rep α} {t : TypeId} {mk : α → Int → α} {cnt : α → Int} {w wr : World} {l : List α} {v : Value} {fp : List Nat} {k : Int} {i : Nat}
theorem MkAt.start (h : SlOwn E t w l v fp) (hnd : fp.Nodup) : MkAt E t mk cnt w l v fp k 0 w := ⟨Chg.refl _ _, fp, by rw [half_zero]; exact h, hnd, fun b hb => hb⟩
theorem MkAt.done (h : MkAt E t mk cnt w l v fp k i wr) (hi : l.length ≤ i) : MkRet E t mk cnt w l v fp k (.returned (.int .i64 (k + cntL cnt (l.take i)))) wr := by
  obtain ⟨h1, fp', h2, h3, h4⟩ := h
  rw [half_end hi] at h2
  rw [List.take_of_length_le hi]
  exact ⟨rfl, h1, fp', h2, h3, h4⟩
end
/-- what the marking of a whole struct leaves -/
def MkTop {α : Type} (R : Rep α) (top : α → Int → α) (ctop : α → Int) (w : World) (x : α) (cs : List Value) (fp : List Nat) (k : Int) (e : Ending) (w' : World) : Prop :=
  e = .returned (.int .i64 (k + ctop x)) ∧ Chg fp w w' ∧ ∃ fp', R.own w' (top x k) cs fp' ∧ fp'.Nodup ∧ ∀ b, b ∈ fp' → b ∈ fp
theorem und_chg {fp : List Nat} {a b c : World} (h : Chg fp a b) (k : Below b.heap.size b c) : Chg fp a c := h.trans (Chg.of_below k)
end Mm
end Go.Proofs.Ytnppcdiicnofpaa

/-
  What a marking makes of the program's types. No program in sight. No conditions.
-/
namespace Go.Proofs.Ytnppcdiicnofpaa
namespace Pl
def mkText (k : Int) : ByteArray := ⟨(109 :: digs k.toNat k.toNat []).toArray⟩
def mkInt (_ : Int) (k : Int) : Int := k
def mkBool (_ : Bool) (k : Int) : Bool := k % 3 == 0
def mkStr (_ : ByteArray) (k : Int) : ByteArray := mkText k
def cnt1 {α : Type} (_ : α) : Int := 1
theorem cnt1_nn {α : Type} (x : α) : 0 ≤ cnt1 x := by unfold cnt1; omega
def mkSample (_ : Sample) (k : Int) : Sample := ⟨k, (k + 1)⟩
def cntSample (_ : Sample) : Int := 1 + 1
theorem cntSample_nn (x : Sample) : 0 ≤ cntSample x := by
  unfold cntSample; omega
def mkWindow (_ : Window) (k : Int) : Window := ⟨k, (k + 1), ((k + 1) + 1), (((k + 1) + 1) + 1), ((((k + 1) + 1) + 1) + 1)⟩
def cntWindow (_ : Window) : Int := 1 + 1 + 1 + 1 + 1
theorem cntWindow_nn (x : Window) : 0 ≤ cntWindow x := by
  unfold cntWindow; omega
def mkTold (_ : Told) (k : Int) : Told := ⟨k, (k + 1), Pl.mkText (((k + 1) + 1))⟩
def cntTold (_ : Told) : Int := 1 + 1 + 1
theorem cntTold_nn (x : Told) : 0 ≤ cntTold x := by
  unfold cntTold; omega
def mkNote (_ : Note) (k : Int) : Note := ⟨(k % 3 == 0), ⟨(k + 1), ((k + 1) + 1), Pl.mkText ((((k + 1) + 1) + 1))⟩⟩
def cntNote (_ : Note) : Int := 1 + 1 + 1 + 1
theorem cntNote_nn (x : Note) : 0 ≤ cntNote x := by
  unfold cntNote; omega
def mkTellStep (_ : TellStep) (k : Int) : TellStep := ⟨k, (k + 1), Pl.mkText (((k + 1) + 1))⟩
def cntTellStep (_ : TellStep) : Int := 1 + 1 + 1
theorem cntTellStep_nn (x : TellStep) : 0 ≤ cntTellStep x := by
  unfold cntTellStep; omega
def mkSnapStep (_ : SnapStep) (k : Int) : SnapStep := ⟨k, (k + 1), ((k + 1) + 1), (((k + 1) + 1) + 1)⟩
def cntSnapStep (_ : SnapStep) : Int := 1 + 1 + 1 + 1
theorem cntSnapStep_nn (x : SnapStep) : 0 ≤ cntSnapStep x := by
  unfold cntSnapStep; omega
def mkSay (_ : Say) (k : Int) : Say := ⟨Pl.mkText (k), (k + 1), ((k + 1) + 1)⟩
def cntSay (_ : Say) : Int := 1 + 1 + 1
theorem cntSay_nn (x : Say) : 0 ≤ cntSay x := by
  unfold cntSay; omega
def mkLabel (_ : Label) (k : Int) : Label := ⟨Pl.mkText (k), Pl.mkText ((k + 1))⟩
def cntLabel (_ : Label) : Int := 1 + 1
theorem cntLabel_nn (x : Label) : 0 ≤ cntLabel x := by
  unfold cntLabel; omega
def mkEntry (_ : Entry) (k : Int) : Entry := ⟨k, Pl.mkText ((k + 1))⟩
def cntEntry (_ : Entry) : Int := 1 + 1
theorem cntEntry_nn (x : Entry) : 0 ≤ cntEntry x := by
  unfold cntEntry; omega
def mkStart (_ : Start) (k : Int) : Start := ⟨k, (k + 1)⟩
def cntStart (_ : Start) : Int := 1 + 1
theorem cntStart_nn (x : Start) : 0 ≤ cntStart x := by
  unfold cntStart; omega
def mkLetter (_ : Letter) (k : Int) : Letter := ⟨k, (k + 1), ((k + 1) + 1), ((((k + 1) + 1) + 1) % 3 == 0), ((((k + 1) + 1) + 1) + 1)⟩
def cntLetter (_ : Letter) : Int := 1 + 1 + 1 + 1 + 1
theorem cntLetter_nn (x : Letter) : 0 ≤ cntLetter x := by
  unfold cntLetter; omega
def mkVoteStep (_ : VoteStep) (k : Int) : VoteStep := ⟨k, (k + 1)⟩
def cntVoteStep (_ : VoteStep) : Int := 1 + 1
theorem cntVoteStep_nn (x : VoteStep) : 0 ≤ cntVoteStep x := by
  unfold cntVoteStep; omega
def mkReplStep (_ : ReplStep) (k : Int) : ReplStep := ⟨k, (k + 1), Pl.mkText (((k + 1) + 1))⟩
def cntReplStep (_ : ReplStep) : Int := 1 + 1 + 1
theorem cntReplStep_nn (x : ReplStep) : 0 ≤ cntReplStep x := by
  unfold cntReplStep; omega
def mkHouseStep (_ : HouseStep) (k : Int) : HouseStep := ⟨k, (k + 1), ⟨Pl.mkText (((k + 1) + 1)), (((k + 1) + 1) + 1), ((((k + 1) + 1) + 1) + 1)⟩⟩
def cntHouseStep (_ : HouseStep) : Int := 1 + 1 + 1 + 1 + 1
theorem cntHouseStep_nn (x : HouseStep) : 0 ≤ cntHouseStep x := by
  unfold cntHouseStep; omega
def mkToken (_ : Token) (k : Int) : Token := ⟨k, (k + 1)⟩
def cntToken (_ : Token) : Int := 1 + 1
theorem cntToken_nn (x : Token) : 0 ≤ cntToken x := by
  unfold cntToken; omega
def mkRow (x : Row) (k : Int) : Row := ⟨Pl.mkText (k), (Mm.mkL Pl.mkSample Pl.cntSample) x.Samples (k + 1)⟩
def cntRow (x : Row) : Int := 1 + (Mm.cntL Pl.cntSample) x.Samples
theorem cntRow_nn (x : Row) : 0 ≤ cntRow x := by
  have h1 := Mm.cntL_nn (cnt := cntSample) (cntSample_nn) x.Samples
  unfold cntRow; omega
def mkHead (x : Head) (k : Int) : Head := ⟨(Mm.mkL Pl.mkRow Pl.cntRow) x.Rows k, (k + (Mm.cntL Pl.cntRow) x.Rows)⟩
def cntHead (x : Head) : Int := (Mm.cntL Pl.cntRow) x.Rows + 1
theorem cntHead_nn (x : Head) : 0 ≤ cntHead x := by
  have h0 := Mm.cntL_nn (cnt := cntRow) (cntRow_nn) x.Rows
  unfold cntHead; omega
def mkItem (x : Item) (k : Int) : Item := ⟨(Mm.mkL Pl.mkLabel Pl.cntLabel) x.Labels k, (k + (Mm.cntL Pl.cntLabel) x.Labels)⟩
def cntItem (x : Item) : Int := (Mm.cntL Pl.cntLabel) x.Labels + 1
theorem cntItem_nn (x : Item) : 0 ≤ cntItem x := by
  have h0 := Mm.cntL_nn (cnt := cntLabel) (cntLabel_nn) x.Labels
  unfold cntItem; omega
def mkTotal (x : Total) (k : Int) : Total := ⟨(Mm.mkL Pl.mkLabel Pl.cntLabel) x.Labels k, (k + (Mm.cntL Pl.cntLabel) x.Labels), ((k + (Mm.cntL Pl.cntLabel) x.Labels) + 1), (((k + (Mm.cntL Pl.cntLabel) x.Labels) + 1) + 1), ((((k + (Mm.cntL Pl.cntLabel) x.Labels) + 1) + 1) + 1)⟩
def cntTotal (x : Total) : Int := (Mm.cntL Pl.cntLabel) x.Labels + 1 + 1 + 1 + 1
theorem cntTotal_nn (x : Total) : 0 ≤ cntTotal x := by
  have h0 := Mm.cntL_nn (cnt := cntLabel) (cntLabel_nn) x.Labels
  unfold cntTotal; omega
def mkSketch (x : Sketch) (k : Int) : Sketch := ⟨(Mm.mkL (Mm.mkL Pl.mkInt Pl.cnt1) (Mm.cntL Pl.cnt1)) x.Rows k, (k + (Mm.cntL (Mm.cntL Pl.cnt1)) x.Rows)⟩
def cntSketch (x : Sketch) : Int := (Mm.cntL (Mm.cntL Pl.cnt1)) x.Rows + 1
theorem cntSketch_nn (x : Sketch) : 0 ≤ cntSketch x := by
  have h0 := Mm.cntL_nn (cnt := (Mm.cntL cnt1)) (Mm.cntL_nn (cnt := cnt1) (cnt1_nn)) x.Rows
  unfold cntSketch; omega
def mkHeavy (x : Heavy) (k : Int) : Heavy := ⟨(Mm.mkL Pl.mkStr Pl.cnt1) x.Names k, (Mm.mkL Pl.mkInt Pl.cnt1) x.Counts (k + (Mm.cntL Pl.cnt1) x.Names), ((k + (Mm.cntL Pl.cnt1) x.Names) + (Mm.cntL Pl.cnt1) x.Counts), (((k + (Mm.cntL Pl.cnt1) x.Names) + (Mm.cntL Pl.cnt1) x.Counts) + 1)⟩
def cntHeavy (x : Heavy) : Int := (Mm.cntL Pl.cnt1) x.Names + (Mm.cntL Pl.cnt1) x.Counts + 1 + 1
theorem cntHeavy_nn (x : Heavy) : 0 ≤ cntHeavy x := by
  have h0 := Mm.cntL_nn (cnt := cnt1) (cnt1_nn) x.Names
  have h1 := Mm.cntL_nn (cnt := cnt1) (cnt1_nn) x.Counts
  unfold cntHeavy; omega
def mkPiece (x : Piece) (k : Int) : Piece := ⟨k, Pl.mkText ((k + 1)), (Mm.mkL Pl.mkInt Pl.cnt1) x.Index ((k + 1) + 1)⟩
def cntPiece (x : Piece) : Int := 1 + 1 + (Mm.cntL Pl.cnt1) x.Index
theorem cntPiece_nn (x : Piece) : 0 ≤ cntPiece x := by
  have h2 := Mm.cntL_nn (cnt := cnt1) (cnt1_nn) x.Index
  unfold cntPiece; omega
def mkLog (x : Log) (k : Int) : Log := ⟨(Mm.mkL Pl.mkPiece Pl.cntPiece) x.Pieces k, (k + (Mm.cntL Pl.cntPiece) x.Pieces)⟩
def cntLog (x : Log) : Int := (Mm.cntL Pl.cntPiece) x.Pieces + 1
theorem cntLog_nn (x : Log) : 0 ≤ cntLog x := by
  have h0 := Mm.cntL_nn (cnt := cntPiece) (cntPiece_nn) x.Pieces
  unfold cntLog; omega
def mkHouse (x : House) (k : Int) : House := ⟨(Mm.mkL Pl.mkLog Pl.cntLog) x.Logs k, (Mm.mkL Pl.mkHead Pl.cntHead) x.Heads (k + (Mm.cntL Pl.cntLog) x.Logs), (Mm.mkL Pl.mkHead Pl.cntHead) x.Kept ((k + (Mm.cntL Pl.cntLog) x.Logs) + (Mm.cntL Pl.cntHead) x.Heads)⟩
def cntHouse (x : House) : Int := (Mm.cntL Pl.cntLog) x.Logs + (Mm.cntL Pl.cntHead) x.Heads + (Mm.cntL Pl.cntHead) x.Kept
theorem cntHouse_nn (x : House) : 0 ≤ cntHouse x := by
  have h0 := Mm.cntL_nn (cnt := cntLog) (cntLog_nn) x.Logs
  have h1 := Mm.cntL_nn (cnt := cntHead) (cntHead_nn) x.Heads
  have h2 := Mm.cntL_nn (cnt := cntHead) (cntHead_nn) x.Kept
  unfold cntHouse; omega
def mkTell (x : Tell) (k : Int) : Tell := ⟨(Mm.mkL (Mm.mkL Pl.mkStr Pl.cnt1) (Mm.cntL Pl.cnt1)) x.Texts k, (Mm.mkL Pl.mkInt Pl.cnt1) x.Heard (k + (Mm.cntL (Mm.cntL Pl.cnt1)) x.Texts), (Mm.mkL Pl.mkNote Pl.cntNote) x.Line ((k + (Mm.cntL (Mm.cntL Pl.cnt1)) x.Texts) + (Mm.cntL Pl.cnt1) x.Heard), (Mm.mkL Pl.mkTold Pl.cntTold) x.Log (((k + (Mm.cntL (Mm.cntL Pl.cnt1)) x.Texts) + (Mm.cntL Pl.cnt1) x.Heard) + (Mm.cntL Pl.cntNote) x.Line), (Mm.mkL Pl.mkInt Pl.cnt1) x.Next ((((k + (Mm.cntL (Mm.cntL Pl.cnt1)) x.Texts) + (Mm.cntL Pl.cnt1) x.Heard) + (Mm.cntL Pl.cntNote) x.Line) + (Mm.cntL Pl.cntTold) x.Log)⟩
def cntTell (x : Tell) : Int := (Mm.cntL (Mm.cntL Pl.cnt1)) x.Texts + (Mm.cntL Pl.cnt1) x.Heard + (Mm.cntL Pl.cntNote) x.Line + (Mm.cntL Pl.cntTold) x.Log + (Mm.cntL Pl.cnt1) x.Next
theorem cntTell_nn (x : Tell) : 0 ≤ cntTell x := by
  have h0 := Mm.cntL_nn (cnt := (Mm.cntL cnt1)) (Mm.cntL_nn (cnt := cnt1) (cnt1_nn)) x.Texts
  have h1 := Mm.cntL_nn (cnt := cnt1) (cnt1_nn) x.Heard
  have h2 := Mm.cntL_nn (cnt := cntNote) (cntNote_nn) x.Line
  have h3 := Mm.cntL_nn (cnt := cntTold) (cntTold_nn) x.Log
  have h4 := Mm.cntL_nn (cnt := cnt1) (cnt1_nn) x.Next
  unfold cntTell; omega
def mkBank (x : Bank) (k : Int) : Bank := ⟨(Mm.mkL Pl.mkInt Pl.cnt1) x.Coins k, (Mm.mkL (Mm.mkL Pl.mkInt Pl.cnt1) (Mm.cntL Pl.cnt1)) x.Ways (k + (Mm.cntL Pl.cnt1) x.Coins), (Mm.mkL Pl.mkInt Pl.cnt1) x.Kept ((k + (Mm.cntL Pl.cnt1) x.Coins) + (Mm.cntL (Mm.cntL Pl.cnt1)) x.Ways), (Mm.mkL (Mm.mkL Pl.mkBool Pl.cnt1) (Mm.cntL Pl.cnt1)) x.Heard (((k + (Mm.cntL Pl.cnt1) x.Coins) + (Mm.cntL (Mm.cntL Pl.cnt1)) x.Ways) + (Mm.cntL Pl.cnt1) x.Kept), (Mm.mkL (Mm.mkL Pl.mkInt Pl.cnt1) (Mm.cntL Pl.cnt1)) x.Found ((((k + (Mm.cntL Pl.cnt1) x.Coins) + (Mm.cntL (Mm.cntL Pl.cnt1)) x.Ways) + (Mm.cntL Pl.cnt1) x.Kept) + (Mm.cntL (Mm.cntL Pl.cnt1)) x.Heard)⟩
def cntBank (x : Bank) : Int := (Mm.cntL Pl.cnt1) x.Coins + (Mm.cntL (Mm.cntL Pl.cnt1)) x.Ways + (Mm.cntL Pl.cnt1) x.Kept + (Mm.cntL (Mm.cntL Pl.cnt1)) x.Heard + (Mm.cntL (Mm.cntL Pl.cnt1)) x.Found
theorem cntBank_nn (x : Bank) : 0 ≤ cntBank x := by
  have h0 := Mm.cntL_nn (cnt := cnt1) (cnt1_nn) x.Coins
  have h1 := Mm.cntL_nn (cnt := (Mm.cntL cnt1)) (Mm.cntL_nn (cnt := cnt1) (cnt1_nn)) x.Ways
  have h2 := Mm.cntL_nn (cnt := cnt1) (cnt1_nn) x.Kept
  have h3 := Mm.cntL_nn (cnt := (Mm.cntL cnt1)) (Mm.cntL_nn (cnt := cnt1) (cnt1_nn)) x.Heard
  have h4 := Mm.cntL_nn (cnt := (Mm.cntL cnt1)) (Mm.cntL_nn (cnt := cnt1) (cnt1_nn)) x.Found
  unfold cntBank; omega
def mkNode (x : Node) (k : Int) : Node := ⟨k, (k + 1), ((k + 1) + 1), (Mm.mkL Pl.mkInt Pl.cnt1) x.Heard (((k + 1) + 1) + 1), ((((k + 1) + 1) + 1) + (Mm.cntL Pl.cnt1) x.Heard)⟩
def cntNode (x : Node) : Int := 1 + 1 + 1 + (Mm.cntL Pl.cnt1) x.Heard + 1
theorem cntNode_nn (x : Node) : 0 ≤ cntNode x := by
  have h3 := Mm.cntL_nn (cnt := cnt1) (cnt1_nn) x.Heard
  unfold cntNode; omega
def mkPoll (x : Poll) (k : Int) : Poll := ⟨(Mm.mkL Pl.mkNode Pl.cntNode) x.Nodes k, (Mm.mkL Pl.mkLetter Pl.cntLetter) x.Letters (k + (Mm.cntL Pl.cntNode) x.Nodes), (Mm.mkL (Mm.mkL Pl.mkInt Pl.cnt1) (Mm.cntL Pl.cnt1)) x.Leaders ((k + (Mm.cntL Pl.cntNode) x.Nodes) + (Mm.cntL Pl.cntLetter) x.Letters)⟩
def cntPoll (x : Poll) : Int := (Mm.cntL Pl.cntNode) x.Nodes + (Mm.cntL Pl.cntLetter) x.Letters + (Mm.cntL (Mm.cntL Pl.cnt1)) x.Leaders
theorem cntPoll_nn (x : Poll) : 0 ≤ cntPoll x := by
  have h0 := Mm.cntL_nn (cnt := cntNode) (cntNode_nn) x.Nodes
  have h1 := Mm.cntL_nn (cnt := cntLetter) (cntLetter_nn) x.Letters
  have h2 := Mm.cntL_nn (cnt := (Mm.cntL cnt1)) (Mm.cntL_nn (cnt := cnt1) (cnt1_nn)) x.Leaders
  unfold cntPoll; omega
def mkRepl (x : Repl) (k : Int) : Repl := ⟨(Mm.mkL (Mm.mkL Pl.mkEntry Pl.cntEntry) (Mm.cntL Pl.cntEntry)) x.Logs k, (Mm.mkL Pl.mkBool Pl.cnt1) x.Down (k + (Mm.cntL (Mm.cntL Pl.cntEntry)) x.Logs), ((k + (Mm.cntL (Mm.cntL Pl.cntEntry)) x.Logs) + (Mm.cntL Pl.cnt1) x.Down), (((k + (Mm.cntL (Mm.cntL Pl.cntEntry)) x.Logs) + (Mm.cntL Pl.cnt1) x.Down) + 1), (Mm.mkL Pl.mkInt Pl.cnt1) x.InSync ((((k + (Mm.cntL (Mm.cntL Pl.cntEntry)) x.Logs) + (Mm.cntL Pl.cnt1) x.Down) + 1) + 1), (Mm.mkL Pl.mkEntry Pl.cntEntry) x.Certain (((((k + (Mm.cntL (Mm.cntL Pl.cntEntry)) x.Logs) + (Mm.cntL Pl.cnt1) x.Down) + 1) + 1) + (Mm.cntL Pl.cnt1) x.InSync)⟩
def cntRepl (x : Repl) : Int := (Mm.cntL (Mm.cntL Pl.cntEntry)) x.Logs + (Mm.cntL Pl.cnt1) x.Down + 1 + 1 + (Mm.cntL Pl.cnt1) x.InSync + (Mm.cntL Pl.cntEntry) x.Certain
theorem cntRepl_nn (x : Repl) : 0 ≤ cntRepl x := by
  have h0 := Mm.cntL_nn (cnt := (Mm.cntL cntEntry)) (Mm.cntL_nn (cnt := cntEntry) (cntEntry_nn)) x.Logs
  have h1 := Mm.cntL_nn (cnt := cnt1) (cnt1_nn) x.Down
  have h4 := Mm.cntL_nn (cnt := cnt1) (cnt1_nn) x.InSync
  have h5 := Mm.cntL_nn (cnt := cntEntry) (cntEntry_nn) x.Certain
  unfold cntRepl; omega
def topSketch (x : Sketch) (k : Int) : Sketch := ⟨(Mm.mkL (Mm.mkL Pl.mkInt Pl.cnt1) (Mm.cntL Pl.cnt1)) x.Rows k, x.Total⟩
def ctopSketch (x : Sketch) : Int := (Mm.cntL (Mm.cntL Pl.cnt1)) x.Rows
def topHeavy (x : Heavy) (k : Int) : Heavy := ⟨(Mm.mkL Pl.mkStr Pl.cnt1) x.Names k, (Mm.mkL Pl.mkInt Pl.cnt1) x.Counts (k + (Mm.cntL Pl.cnt1) x.Names), x.Gone, x.Total⟩
def ctopHeavy (x : Heavy) : Int := (Mm.cntL Pl.cnt1) x.Names + (Mm.cntL Pl.cnt1) x.Counts
def topHead (x : Head) (k : Int) : Head := ⟨(Mm.mkL Pl.mkRow Pl.cntRow) x.Rows k, x.Offset⟩
def ctopHead (x : Head) : Int := (Mm.cntL Pl.cntRow) x.Rows
def topLog (x : Log) (k : Int) : Log := ⟨(Mm.mkL Pl.mkPiece Pl.cntPiece) x.Pieces k, x.Begin⟩
def ctopLog (x : Log) : Int := (Mm.cntL Pl.cntPiece) x.Pieces
def topTell (x : Tell) (k : Int) : Tell := ⟨(Mm.mkL (Mm.mkL Pl.mkStr Pl.cnt1) (Mm.cntL Pl.cnt1)) x.Texts k, (Mm.mkL Pl.mkInt Pl.cnt1) x.Heard (k + (Mm.cntL (Mm.cntL Pl.cnt1)) x.Texts), (Mm.mkL Pl.mkNote Pl.cntNote) x.Line ((k + (Mm.cntL (Mm.cntL Pl.cnt1)) x.Texts) + (Mm.cntL Pl.cnt1) x.Heard), (Mm.mkL Pl.mkTold Pl.cntTold) x.Log (((k + (Mm.cntL (Mm.cntL Pl.cnt1)) x.Texts) + (Mm.cntL Pl.cnt1) x.Heard) + (Mm.cntL Pl.cntNote) x.Line), (Mm.mkL Pl.mkInt Pl.cnt1) x.Next ((((k + (Mm.cntL (Mm.cntL Pl.cnt1)) x.Texts) + (Mm.cntL Pl.cnt1) x.Heard) + (Mm.cntL Pl.cntNote) x.Line) + (Mm.cntL Pl.cntTold) x.Log)⟩
def ctopTell (x : Tell) : Int := (Mm.cntL (Mm.cntL Pl.cnt1)) x.Texts + (Mm.cntL Pl.cnt1) x.Heard + (Mm.cntL Pl.cntNote) x.Line + (Mm.cntL Pl.cntTold) x.Log + (Mm.cntL Pl.cnt1) x.Next
def topBank (x : Bank) (k : Int) : Bank := ⟨(Mm.mkL Pl.mkInt Pl.cnt1) x.Coins k, (Mm.mkL (Mm.mkL Pl.mkInt Pl.cnt1) (Mm.cntL Pl.cnt1)) x.Ways (k + (Mm.cntL Pl.cnt1) x.Coins), (Mm.mkL Pl.mkInt Pl.cnt1) x.Kept ((k + (Mm.cntL Pl.cnt1) x.Coins) + (Mm.cntL (Mm.cntL Pl.cnt1)) x.Ways), (Mm.mkL (Mm.mkL Pl.mkBool Pl.cnt1) (Mm.cntL Pl.cnt1)) x.Heard (((k + (Mm.cntL Pl.cnt1) x.Coins) + (Mm.cntL (Mm.cntL Pl.cnt1)) x.Ways) + (Mm.cntL Pl.cnt1) x.Kept), (Mm.mkL (Mm.mkL Pl.mkInt Pl.cnt1) (Mm.cntL Pl.cnt1)) x.Found ((((k + (Mm.cntL Pl.cnt1) x.Coins) + (Mm.cntL (Mm.cntL Pl.cnt1)) x.Ways) + (Mm.cntL Pl.cnt1) x.Kept) + (Mm.cntL (Mm.cntL Pl.cnt1)) x.Heard)⟩
def ctopBank (x : Bank) : Int := (Mm.cntL Pl.cnt1) x.Coins + (Mm.cntL (Mm.cntL Pl.cnt1)) x.Ways + (Mm.cntL Pl.cnt1) x.Kept + (Mm.cntL (Mm.cntL Pl.cnt1)) x.Heard + (Mm.cntL (Mm.cntL Pl.cnt1)) x.Found
def topHouse (x : House) (k : Int) : House := ⟨(Mm.mkL Pl.mkLog Pl.cntLog) x.Logs k, (Mm.mkL Pl.mkHead Pl.cntHead) x.Heads (k + (Mm.cntL Pl.cntLog) x.Logs), (Mm.mkL Pl.mkHead Pl.cntHead) x.Kept ((k + (Mm.cntL Pl.cntLog) x.Logs) + (Mm.cntL Pl.cntHead) x.Heads)⟩
def ctopHouse (x : House) : Int := (Mm.cntL Pl.cntLog) x.Logs + (Mm.cntL Pl.cntHead) x.Heads + (Mm.cntL Pl.cntHead) x.Kept
def topPoll (x : Poll) (k : Int) : Poll := ⟨(Mm.mkL Pl.mkNode Pl.cntNode) x.Nodes k, (Mm.mkL Pl.mkLetter Pl.cntLetter) x.Letters (k + (Mm.cntL Pl.cntNode) x.Nodes), (Mm.mkL (Mm.mkL Pl.mkInt Pl.cnt1) (Mm.cntL Pl.cnt1)) x.Leaders ((k + (Mm.cntL Pl.cntNode) x.Nodes) + (Mm.cntL Pl.cntLetter) x.Letters)⟩
def ctopPoll (x : Poll) : Int := (Mm.cntL Pl.cntNode) x.Nodes + (Mm.cntL Pl.cntLetter) x.Letters + (Mm.cntL (Mm.cntL Pl.cnt1)) x.Leaders
def topRepl (x : Repl) (k : Int) : Repl := ⟨(Mm.mkL (Mm.mkL Pl.mkEntry Pl.cntEntry) (Mm.cntL Pl.cntEntry)) x.Logs k, (Mm.mkL Pl.mkBool Pl.cnt1) x.Down (k + (Mm.cntL (Mm.cntL Pl.cntEntry)) x.Logs), x.Leader, x.Epoch, (Mm.mkL Pl.mkInt Pl.cnt1) x.InSync ((k + (Mm.cntL (Mm.cntL Pl.cntEntry)) x.Logs) + (Mm.cntL Pl.cnt1) x.Down), (Mm.mkL Pl.mkEntry Pl.cntEntry) x.Certain (((k + (Mm.cntL (Mm.cntL Pl.cntEntry)) x.Logs) + (Mm.cntL Pl.cnt1) x.Down) + (Mm.cntL Pl.cnt1) x.InSync)⟩
def ctopRepl (x : Repl) : Int := (Mm.cntL (Mm.cntL Pl.cntEntry)) x.Logs + (Mm.cntL Pl.cnt1) x.Down + (Mm.cntL Pl.cnt1) x.InSync + (Mm.cntL Pl.cntEntry) x.Certain
end Pl
namespace Pl
theorem cntLb {α : Type} {cnt f : α → Int} (h : ∀ x, cnt x ≤ 8 * (1 + f x)) : ∀ l : List α, Mm.cntL cnt l ≤ 8 * szl f l
  | [] => by simp [Mm.cntL, szl, sumI]
  | x :: t => by
    have h1 := h x
    have h2 := cntLb h t
    show cnt x + Mm.cntL cnt t ≤ 8 * (((t.length + 1 : Nat) : Int) + (f x + sumI f t))
    unfold szl at h2
    omega
theorem cntbSample (x : Sample) : cntSample x ≤ 8 * (1 + Pl.sz0 x) := by
  unfold cntSample sz0
  omega
theorem cntbWindow (x : Window) : cntWindow x ≤ 8 * (1 + Pl.sz0 x) := by
  unfold cntWindow sz0
  omega
theorem cntbTold (x : Told) : cntTold x ≤ 8 * (1 + Pl.szTold x) := by
  have s2 := szStr_nn x.Text
  unfold cntTold szTold
  omega
theorem cntbNote (x : Note) : cntNote x ≤ 8 * (1 + Pl.szNote x) := by
  have s3 := szStr_nn x.What.Text
  unfold cntNote szNote szTold
  omega
theorem cntbTellStep (x : TellStep) : cntTellStep x ≤ 8 * (1 + Pl.szTellStep x) := by
  have s2 := szStr_nn x.Text
  unfold cntTellStep szTellStep
  omega
theorem cntbSnapStep (x : SnapStep) : cntSnapStep x ≤ 8 * (1 + Pl.sz0 x) := by
  unfold cntSnapStep sz0
  omega
theorem cntbSay (x : Say) : cntSay x ≤ 8 * (1 + Pl.szSay x) := by
  have s0 := szStr_nn x.Name
  unfold cntSay szSay
  omega
theorem cntbLabel (x : Label) : cntLabel x ≤ 8 * (1 + Pl.szLabel x) := by
  have s0 := szStr_nn x.Name
  have s1 := szStr_nn x.Value
  unfold cntLabel szLabel
  omega
theorem cntbEntry (x : Entry) : cntEntry x ≤ 8 * (1 + Pl.szEntry x) := by
  have s1 := szStr_nn x.Text
  unfold cntEntry szEntry
  omega
theorem cntbStart (x : Start) : cntStart x ≤ 8 * (1 + Pl.sz0 x) := by
  unfold cntStart sz0
  omega
theorem cntbLetter (x : Letter) : cntLetter x ≤ 8 * (1 + Pl.sz0 x) := by
  unfold cntLetter sz0
  omega
theorem cntbVoteStep (x : VoteStep) : cntVoteStep x ≤ 8 * (1 + Pl.sz0 x) := by
  unfold cntVoteStep sz0
  omega
theorem cntbReplStep (x : ReplStep) : cntReplStep x ≤ 8 * (1 + Pl.szReplStep x) := by
  have s2 := szStr_nn x.Text
  unfold cntReplStep szReplStep
  omega
theorem cntbHouseStep (x : HouseStep) : cntHouseStep x ≤ 8 * (1 + Pl.szHouseStep x) := by
  have s2 := szStr_nn x.What.Name
  unfold cntHouseStep szHouseStep szSay
  omega
theorem cntbToken (x : Token) : cntToken x ≤ 8 * (1 + Pl.sz0 x) := by
  unfold cntToken sz0
  omega
theorem cntbRow (x : Row) : cntRow x ≤ 8 * (1 + Pl.szRow x) := by
  have s0 := szStr_nn x.Name
  have h1 := Pl.cntLb (cnt := Pl.cntSample) (f := Pl.sz0) (Pl.cntbSample) x.Samples
  have s1 := Pl.szl_nn (f := Pl.sz0) (Pl.sz0_nn) x.Samples
  unfold cntRow szRow
  omega
theorem cntbHead (x : Head) : cntHead x ≤ 8 * (1 + Pl.szHead x) := by
  have h0 := Pl.cntLb (cnt := Pl.cntRow) (f := Pl.szRow) (Pl.cntbRow) x.Rows
  have s0 := Pl.szl_nn (f := Pl.szRow) (Pl.szRow_nn) x.Rows
  unfold cntHead szHead
  omega
theorem cntbItem (x : Item) : cntItem x ≤ 8 * (1 + Pl.szItem x) := by
  have h0 := Pl.cntLb (cnt := Pl.cntLabel) (f := Pl.szLabel) (Pl.cntbLabel) x.Labels
  have s0 := Pl.szl_nn (f := Pl.szLabel) (Pl.szLabel_nn) x.Labels
  unfold cntItem szItem
  omega
theorem cntbTotal (x : Total) : cntTotal x ≤ 8 * (1 + Pl.szTotal x) := by
  have h0 := Pl.cntLb (cnt := Pl.cntLabel) (f := Pl.szLabel) (Pl.cntbLabel) x.Labels
  have s0 := Pl.szl_nn (f := Pl.szLabel) (Pl.szLabel_nn) x.Labels
  unfold cntTotal szTotal
  omega
theorem cntbSketch (x : Sketch) : cntSketch x ≤ 8 * (1 + Pl.szSketch x) := by
  have h0 := Pl.cntLb (cnt := (Mm.cntL Pl.cnt1)) (f := (Pl.szl Pl.sz0)) (fun x => by have := Pl.cntLb (cnt := Pl.cnt1) (f := Pl.sz0) (fun x => by have := Pl.sz0_nn x; unfold Pl.cnt1; omega) x; omega) x.Rows
  have s0 := Pl.szl_nn (f := (Pl.szl Pl.sz0)) (Pl.szl_nn (f := Pl.sz0) (Pl.sz0_nn)) x.Rows
  unfold cntSketch szSketch
  omega
theorem cntbHeavy (x : Heavy) : cntHeavy x ≤ 8 * (1 + Pl.szHeavy x) := by
  have h0 := Pl.cntLb (cnt := Pl.cnt1) (f := Pl.szStr) (fun x => by have := Pl.szStr_nn x; unfold Pl.cnt1; omega) x.Names
  have s0 := Pl.szl_nn (f := Pl.szStr) (Pl.szStr_nn) x.Names
  have h1 := Pl.cntLb (cnt := Pl.cnt1) (f := Pl.sz0) (fun x => by have := Pl.sz0_nn x; unfold Pl.cnt1; omega) x.Counts
  have s1 := Pl.szl_nn (f := Pl.sz0) (Pl.sz0_nn) x.Counts
  unfold cntHeavy szHeavy
  omega
theorem cntbPiece (x : Piece) : cntPiece x ≤ 8 * (1 + Pl.szPiece x) := by
  have s1 := szStr_nn x.Bytes
  have h2 := Pl.cntLb (cnt := Pl.cnt1) (f := Pl.sz0) (fun x => by have := Pl.sz0_nn x; unfold Pl.cnt1; omega) x.Index
  have s2 := Pl.szl_nn (f := Pl.sz0) (Pl.sz0_nn) x.Index
  unfold cntPiece szPiece
  omega
theorem cntbLog (x : Log) : cntLog x ≤ 8 * (1 + Pl.szLog x) := by
  have h0 := Pl.cntLb (cnt := Pl.cntPiece) (f := Pl.szPiece) (Pl.cntbPiece) x.Pieces
  have s0 := Pl.szl_nn (f := Pl.szPiece) (Pl.szPiece_nn) x.Pieces
  unfold cntLog szLog
  omega
theorem cntbHouse (x : House) : cntHouse x ≤ 8 * (1 + Pl.szHouse x) := by
  have h0 := Pl.cntLb (cnt := Pl.cntLog) (f := Pl.szLog) (Pl.cntbLog) x.Logs
  have s0 := Pl.szl_nn (f := Pl.szLog) (Pl.szLog_nn) x.Logs
  have h1 := Pl.cntLb (cnt := Pl.cntHead) (f := Pl.szHead) (Pl.cntbHead) x.Heads
  have s1 := Pl.szl_nn (f := Pl.szHead) (Pl.szHead_nn) x.Heads
  have h2 := Pl.cntLb (cnt := Pl.cntHead) (f := Pl.szHead) (Pl.cntbHead) x.Kept
  have s2 := Pl.szl_nn (f := Pl.szHead) (Pl.szHead_nn) x.Kept
  unfold cntHouse szHouse
  omega
theorem cntbTell (x : Tell) : cntTell x ≤ 8 * (1 + Pl.szTell x) := by
  have h0 := Pl.cntLb (cnt := (Mm.cntL Pl.cnt1)) (f := (Pl.szl Pl.szStr)) (fun x => by have := Pl.cntLb (cnt := Pl.cnt1) (f := Pl.szStr) (fun x => by have := Pl.szStr_nn x; unfold Pl.cnt1; omega) x; omega) x.Texts
  have s0 := Pl.szl_nn (f := (Pl.szl Pl.szStr)) (Pl.szl_nn (f := Pl.szStr) (Pl.szStr_nn)) x.Texts
  have h1 := Pl.cntLb (cnt := Pl.cnt1) (f := Pl.sz0) (fun x => by have := Pl.sz0_nn x; unfold Pl.cnt1; omega) x.Heard
  have s1 := Pl.szl_nn (f := Pl.sz0) (Pl.sz0_nn) x.Heard
  have h2 := Pl.cntLb (cnt := Pl.cntNote) (f := Pl.szNote) (Pl.cntbNote) x.Line
  have s2 := Pl.szl_nn (f := Pl.szNote) (Pl.szNote_nn) x.Line
  have h3 := Pl.cntLb (cnt := Pl.cntTold) (f := Pl.szTold) (Pl.cntbTold) x.Log
  have s3 := Pl.szl_nn (f := Pl.szTold) (Pl.szTold_nn) x.Log
  have h4 := Pl.cntLb (cnt := Pl.cnt1) (f := Pl.sz0) (fun x => by have := Pl.sz0_nn x; unfold Pl.cnt1; omega) x.Next
  have s4 := Pl.szl_nn (f := Pl.sz0) (Pl.sz0_nn) x.Next
  unfold cntTell szTell
  omega
theorem cntbBank (x : Bank) : cntBank x ≤ 8 * (1 + Pl.szBank x) := by
  have h0 := Pl.cntLb (cnt := Pl.cnt1) (f := Pl.sz0) (fun x => by have := Pl.sz0_nn x; unfold Pl.cnt1; omega) x.Coins
  have s0 := Pl.szl_nn (f := Pl.sz0) (Pl.sz0_nn) x.Coins
  have h1 := Pl.cntLb (cnt := (Mm.cntL Pl.cnt1)) (f := (Pl.szl Pl.sz0)) (fun x => by have := Pl.cntLb (cnt := Pl.cnt1) (f := Pl.sz0) (fun x => by have := Pl.sz0_nn x; unfold Pl.cnt1; omega) x; omega) x.Ways
  have s1 := Pl.szl_nn (f := (Pl.szl Pl.sz0)) (Pl.szl_nn (f := Pl.sz0) (Pl.sz0_nn)) x.Ways
  have h2 := Pl.cntLb (cnt := Pl.cnt1) (f := Pl.sz0) (fun x => by have := Pl.sz0_nn x; unfold Pl.cnt1; omega) x.Kept
  have s2 := Pl.szl_nn (f := Pl.sz0) (Pl.sz0_nn) x.Kept
  have h3 := Pl.cntLb (cnt := (Mm.cntL Pl.cnt1)) (f := (Pl.szl Pl.sz0)) (fun x => by have := Pl.cntLb (cnt := Pl.cnt1) (f := Pl.sz0) (fun x => by have := Pl.sz0_nn x; unfold Pl.cnt1; omega) x; omega) x.Heard
  have s3 := Pl.szl_nn (f := (Pl.szl Pl.sz0)) (Pl.szl_nn (f := Pl.sz0) (Pl.sz0_nn)) x.Heard
  have h4 := Pl.cntLb (cnt := (Mm.cntL Pl.cnt1)) (f := (Pl.szl Pl.sz0)) (fun x => by have := Pl.cntLb (cnt := Pl.cnt1) (f := Pl.sz0) (fun x => by have := Pl.sz0_nn x; unfold Pl.cnt1; omega) x; omega) x.Found
  have s4 := Pl.szl_nn (f := (Pl.szl Pl.sz0)) (Pl.szl_nn (f := Pl.sz0) (Pl.sz0_nn)) x.Found
  unfold cntBank szBank
  omega
theorem cntbNode (x : Node) : cntNode x ≤ 8 * (1 + Pl.szNode x) := by
  have h3 := Pl.cntLb (cnt := Pl.cnt1) (f := Pl.sz0) (fun x => by have := Pl.sz0_nn x; unfold Pl.cnt1; omega) x.Heard
  have s3 := Pl.szl_nn (f := Pl.sz0) (Pl.sz0_nn) x.Heard
  unfold cntNode szNode
  omega
theorem cntbPoll (x : Poll) : cntPoll x ≤ 8 * (1 + Pl.szPoll x) := by
  have h0 := Pl.cntLb (cnt := Pl.cntNode) (f := Pl.szNode) (Pl.cntbNode) x.Nodes
  have s0 := Pl.szl_nn (f := Pl.szNode) (Pl.szNode_nn) x.Nodes
  have h1 := Pl.cntLb (cnt := Pl.cntLetter) (f := Pl.sz0) (Pl.cntbLetter) x.Letters
  have s1 := Pl.szl_nn (f := Pl.sz0) (Pl.sz0_nn) x.Letters
  have h2 := Pl.cntLb (cnt := (Mm.cntL Pl.cnt1)) (f := (Pl.szl Pl.sz0)) (fun x => by have := Pl.cntLb (cnt := Pl.cnt1) (f := Pl.sz0) (fun x => by have := Pl.sz0_nn x; unfold Pl.cnt1; omega) x; omega) x.Leaders
  have s2 := Pl.szl_nn (f := (Pl.szl Pl.sz0)) (Pl.szl_nn (f := Pl.sz0) (Pl.sz0_nn)) x.Leaders
  unfold cntPoll szPoll
  omega
theorem cntbRepl (x : Repl) : cntRepl x ≤ 8 * (1 + Pl.szRepl x) := by
  have h0 := Pl.cntLb (cnt := (Mm.cntL Pl.cntEntry)) (f := (Pl.szl Pl.szEntry)) (fun x => by have := Pl.cntLb (cnt := Pl.cntEntry) (f := Pl.szEntry) (Pl.cntbEntry) x; omega) x.Logs
  have s0 := Pl.szl_nn (f := (Pl.szl Pl.szEntry)) (Pl.szl_nn (f := Pl.szEntry) (Pl.szEntry_nn)) x.Logs
  have h1 := Pl.cntLb (cnt := Pl.cnt1) (f := Pl.sz0) (fun x => by have := Pl.sz0_nn x; unfold Pl.cnt1; omega) x.Down
  have s1 := Pl.szl_nn (f := Pl.sz0) (Pl.sz0_nn) x.Down
  have h4 := Pl.cntLb (cnt := Pl.cnt1) (f := Pl.sz0) (fun x => by have := Pl.sz0_nn x; unfold Pl.cnt1; omega) x.InSync
  have s4 := Pl.szl_nn (f := Pl.sz0) (Pl.sz0_nn) x.InSync
  have h5 := Pl.cntLb (cnt := Pl.cntEntry) (f := Pl.szEntry) (Pl.cntbEntry) x.Certain
  have s5 := Pl.szl_nn (f := Pl.szEntry) (Pl.szEntry_nn) x.Certain
  unfold cntRepl szRepl
  omega
theorem ctopSketch_nn (x : Sketch) : 0 ≤ ctopSketch x := by
  have h0 := Mm.cntL_nn (cnt := (Mm.cntL Pl.cnt1)) (Mm.cntL_nn (cnt := Pl.cnt1) (Pl.cnt1_nn)) x.Rows
  unfold ctopSketch; omega
theorem ctopbSketch (x : Sketch) : ctopSketch x ≤ 8 * Pl.szSketch x := by
  have h0 := Pl.cntLb (cnt := (Mm.cntL Pl.cnt1)) (f := (Pl.szl Pl.sz0)) (fun x => by have := Pl.cntLb (cnt := Pl.cnt1) (f := Pl.sz0) (fun x => by have := Pl.sz0_nn x; unfold Pl.cnt1; omega) x; omega) x.Rows
  unfold ctopSketch szSketch; omega
theorem ctopHeavy_nn (x : Heavy) : 0 ≤ ctopHeavy x := by
  have h0 := Mm.cntL_nn (cnt := Pl.cnt1) (Pl.cnt1_nn) x.Names
  have h1 := Mm.cntL_nn (cnt := Pl.cnt1) (Pl.cnt1_nn) x.Counts
  unfold ctopHeavy; omega
theorem ctopbHeavy (x : Heavy) : ctopHeavy x ≤ 8 * Pl.szHeavy x := by
  have h0 := Pl.cntLb (cnt := Pl.cnt1) (f := Pl.szStr) (fun x => by have := Pl.szStr_nn x; unfold Pl.cnt1; omega) x.Names
  have h1 := Pl.cntLb (cnt := Pl.cnt1) (f := Pl.sz0) (fun x => by have := Pl.sz0_nn x; unfold Pl.cnt1; omega) x.Counts
  unfold ctopHeavy szHeavy; omega
theorem ctopHead_nn (x : Head) : 0 ≤ ctopHead x := by
  have h0 := Mm.cntL_nn (cnt := Pl.cntRow) (Pl.cntRow_nn) x.Rows
  unfold ctopHead; omega
theorem ctopbHead (x : Head) : ctopHead x ≤ 8 * Pl.szHead x := by
  have h0 := Pl.cntLb (cnt := Pl.cntRow) (f := Pl.szRow) (Pl.cntbRow) x.Rows
  unfold ctopHead szHead; omega
theorem ctopLog_nn (x : Log) : 0 ≤ ctopLog x := by
  have h0 := Mm.cntL_nn (cnt := Pl.cntPiece) (Pl.cntPiece_nn) x.Pieces
  unfold ctopLog; omega
theorem ctopbLog (x : Log) : ctopLog x ≤ 8 * Pl.szLog x := by
  have h0 := Pl.cntLb (cnt := Pl.cntPiece) (f := Pl.szPiece) (Pl.cntbPiece) x.Pieces
  unfold ctopLog szLog; omega
theorem ctopTell_nn (x : Tell) : 0 ≤ ctopTell x := by
  have h0 := Mm.cntL_nn (cnt := (Mm.cntL Pl.cnt1)) (Mm.cntL_nn (cnt := Pl.cnt1) (Pl.cnt1_nn)) x.Texts
  have h1 := Mm.cntL_nn (cnt := Pl.cnt1) (Pl.cnt1_nn) x.Heard
  have h2 := Mm.cntL_nn (cnt := Pl.cntNote) (Pl.cntNote_nn) x.Line
  have h3 := Mm.cntL_nn (cnt := Pl.cntTold) (Pl.cntTold_nn) x.Log
  have h4 := Mm.cntL_nn (cnt := Pl.cnt1) (Pl.cnt1_nn) x.Next
  unfold ctopTell; omega
theorem ctopbTell (x : Tell) : ctopTell x ≤ 8 * Pl.szTell x := by
  have h0 := Pl.cntLb (cnt := (Mm.cntL Pl.cnt1)) (f := (Pl.szl Pl.szStr)) (fun x => by have := Pl.cntLb (cnt := Pl.cnt1) (f := Pl.szStr) (fun x => by have := Pl.szStr_nn x; unfold Pl.cnt1; omega) x; omega) x.Texts
  have h1 := Pl.cntLb (cnt := Pl.cnt1) (f := Pl.sz0) (fun x => by have := Pl.sz0_nn x; unfold Pl.cnt1; omega) x.Heard
  have h2 := Pl.cntLb (cnt := Pl.cntNote) (f := Pl.szNote) (Pl.cntbNote) x.Line
  have h3 := Pl.cntLb (cnt := Pl.cntTold) (f := Pl.szTold) (Pl.cntbTold) x.Log
  have h4 := Pl.cntLb (cnt := Pl.cnt1) (f := Pl.sz0) (fun x => by have := Pl.sz0_nn x; unfold Pl.cnt1; omega) x.Next
  unfold ctopTell szTell; omega
theorem ctopBank_nn (x : Bank) : 0 ≤ ctopBank x := by
  have h0 := Mm.cntL_nn (cnt := Pl.cnt1) (Pl.cnt1_nn) x.Coins
  have h1 := Mm.cntL_nn (cnt := (Mm.cntL Pl.cnt1)) (Mm.cntL_nn (cnt := Pl.cnt1) (Pl.cnt1_nn)) x.Ways
  have h2 := Mm.cntL_nn (cnt := Pl.cnt1) (Pl.cnt1_nn) x.Kept
  have h3 := Mm.cntL_nn (cnt := (Mm.cntL Pl.cnt1)) (Mm.cntL_nn (cnt := Pl.cnt1) (Pl.cnt1_nn)) x.Heard
  have h4 := Mm.cntL_nn (cnt := (Mm.cntL Pl.cnt1)) (Mm.cntL_nn (cnt := Pl.cnt1) (Pl.cnt1_nn)) x.Found
  unfold ctopBank; omega
theorem ctopbBank (x : Bank) : ctopBank x ≤ 8 * Pl.szBank x := by
  have h0 := Pl.cntLb (cnt := Pl.cnt1) (f := Pl.sz0) (fun x => by have := Pl.sz0_nn x; unfold Pl.cnt1; omega) x.Coins
  have h1 := Pl.cntLb (cnt := (Mm.cntL Pl.cnt1)) (f := (Pl.szl Pl.sz0)) (fun x => by have := Pl.cntLb (cnt := Pl.cnt1) (f := Pl.sz0) (fun x => by have := Pl.sz0_nn x; unfold Pl.cnt1; omega) x; omega) x.Ways
  have h2 := Pl.cntLb (cnt := Pl.cnt1) (f := Pl.sz0) (fun x => by have := Pl.sz0_nn x; unfold Pl.cnt1; omega) x.Kept
  have h3 := Pl.cntLb (cnt := (Mm.cntL Pl.cnt1)) (f := (Pl.szl Pl.sz0)) (fun x => by have := Pl.cntLb (cnt := Pl.cnt1) (f := Pl.sz0) (fun x => by have := Pl.sz0_nn x; unfold Pl.cnt1; omega) x; omega) x.Heard
  have h4 := Pl.cntLb (cnt := (Mm.cntL Pl.cnt1)) (f := (Pl.szl Pl.sz0)) (fun x => by have := Pl.cntLb (cnt := Pl.cnt1) (f := Pl.sz0) (fun x => by have := Pl.sz0_nn x; unfold Pl.cnt1; omega) x; omega) x.Found
  unfold ctopBank szBank; omega
theorem ctopHouse_nn (x : House) : 0 ≤ ctopHouse x := by
  have h0 := Mm.cntL_nn (cnt := Pl.cntLog) (Pl.cntLog_nn) x.Logs
  have h1 := Mm.cntL_nn (cnt := Pl.cntHead) (Pl.cntHead_nn) x.Heads
  have h2 := Mm.cntL_nn (cnt := Pl.cntHead) (Pl.cntHead_nn) x.Kept
  unfold ctopHouse; omega
theorem ctopbHouse (x : House) : ctopHouse x ≤ 8 * Pl.szHouse x := by
  have h0 := Pl.cntLb (cnt := Pl.cntLog) (f := Pl.szLog) (Pl.cntbLog) x.Logs
  have h1 := Pl.cntLb (cnt := Pl.cntHead) (f := Pl.szHead) (Pl.cntbHead) x.Heads
  have h2 := Pl.cntLb (cnt := Pl.cntHead) (f := Pl.szHead) (Pl.cntbHead) x.Kept
  unfold ctopHouse szHouse; omega
theorem ctopPoll_nn (x : Poll) : 0 ≤ ctopPoll x := by
  have h0 := Mm.cntL_nn (cnt := Pl.cntNode) (Pl.cntNode_nn) x.Nodes
  have h1 := Mm.cntL_nn (cnt := Pl.cntLetter) (Pl.cntLetter_nn) x.Letters
  have h2 := Mm.cntL_nn (cnt := (Mm.cntL Pl.cnt1)) (Mm.cntL_nn (cnt := Pl.cnt1) (Pl.cnt1_nn)) x.Leaders
  unfold ctopPoll; omega
theorem ctopbPoll (x : Poll) : ctopPoll x ≤ 8 * Pl.szPoll x := by
  have h0 := Pl.cntLb (cnt := Pl.cntNode) (f := Pl.szNode) (Pl.cntbNode) x.Nodes
  have h1 := Pl.cntLb (cnt := Pl.cntLetter) (f := Pl.sz0) (Pl.cntbLetter) x.Letters
  have h2 := Pl.cntLb (cnt := (Mm.cntL Pl.cnt1)) (f := (Pl.szl Pl.sz0)) (fun x => by have := Pl.cntLb (cnt := Pl.cnt1) (f := Pl.sz0) (fun x => by have := Pl.sz0_nn x; unfold Pl.cnt1; omega) x; omega) x.Leaders
  unfold ctopPoll szPoll; omega
theorem ctopRepl_nn (x : Repl) : 0 ≤ ctopRepl x := by
  have h0 := Mm.cntL_nn (cnt := (Mm.cntL Pl.cntEntry)) (Mm.cntL_nn (cnt := Pl.cntEntry) (Pl.cntEntry_nn)) x.Logs
  have h1 := Mm.cntL_nn (cnt := Pl.cnt1) (Pl.cnt1_nn) x.Down
  have h2 := Mm.cntL_nn (cnt := Pl.cnt1) (Pl.cnt1_nn) x.InSync
  have h3 := Mm.cntL_nn (cnt := Pl.cntEntry) (Pl.cntEntry_nn) x.Certain
  unfold ctopRepl; omega
theorem ctopbRepl (x : Repl) : ctopRepl x ≤ 8 * Pl.szRepl x := by
  have h0 := Pl.cntLb (cnt := (Mm.cntL Pl.cntEntry)) (f := (Pl.szl Pl.szEntry)) (fun x => by have := Pl.cntLb (cnt := Pl.cntEntry) (f := Pl.szEntry) (Pl.cntbEntry) x; omega) x.Logs
  have h1 := Pl.cntLb (cnt := Pl.cnt1) (f := Pl.sz0) (fun x => by have := Pl.sz0_nn x; unfold Pl.cnt1; omega) x.Down
  have h2 := Pl.cntLb (cnt := Pl.cnt1) (f := Pl.sz0) (fun x => by have := Pl.sz0_nn x; unfold Pl.cnt1; omega) x.InSync
  have h3 := Pl.cntLb (cnt := Pl.cntEntry) (f := Pl.szEntry) (Pl.cntbEntry) x.Certain
  unfold ctopRepl szRepl; omega
end Pl
namespace Pl
theorem digs_len : ∀ (f k : Nat) (acc : List UInt8), (digs f k acc).length ≤ acc.length + f
  | 0, _, acc => by simp [digs]
  | f + 1, k, acc => by
    unfold digs
    split
    · omega
    · have := digs_len f (k / 10) (UInt8.ofNat (48 + k % 10) :: acc)
      rw [List.length_cons] at this
      omega
theorem mkText_len (k : Int) (h0 : 0 ≤ k) (h1 : k ≤ 1000000000000) : (mkText k).size ≤ maxLen := by
  unfold mkText
  have := digs_len k.toNat k.toNat []
  show (109 :: digs k.toNat k.toNat []).toArray.size ≤ maxLen
  rw [List.size_toArray, List.length_cons]
  unfold maxLen
  simp only [List.length_nil] at this
  omega
end Pl
end Go.Proofs.Ytnppcdiicnofpaa

/-
  How the program's types lie in memory. No conditions.
-/
namespace Go.Proofs.Ytnppcdiicnofpaa
def rLabel : Mm.Rep Label := Mm.flat 2 (fun x => [.string x.Name, .string x.Value]) (fun x => x.Name.size ≤ maxLen ∧ x.Value.size ≤ maxLen) (fun _ => rfl) (fun _ u hu => by
  simp at hu; rcases hu with rfl | rfl <;> rfl)
theorem rLabel_at {w : World} {B : Nat} {x : Label} {cs : List Value} (h : rLabel.at_ w B x cs) : cs = [.string x.Name, .string x.Value] ∧ x.Name.size ≤ maxLen ∧ x.Value.size ≤ maxLen := h
theorem rLabel_own {w : World} {x : Label} {cs : List Value} {fp : List Nat} (h : rLabel.own w x cs fp) : cs = [.string x.Name, .string x.Value] ∧ (x.Name.size ≤ maxLen ∧ x.Value.size ≤ maxLen) ∧ fp = [] := h
theorem rLabel_own_mk {w : World} {x : Label} (h : x.Name.size ≤ maxLen ∧ x.Value.size ≤ maxLen) : rLabel.own w x [.string x.Name, .string x.Value] [] := ⟨rfl, h, rfl⟩
def rLabelS : Mm.Rep (List Label) := Mm.slice rLabel 97
def rItem : Mm.Rep Item := Mm.iso (fun x => (x.Labels, x.Value)) (Mm.pair rLabelS Mm.int)
theorem rItem_at {w : World} {B : Nat} {x : Item} {cs : List Value} (h : rItem.at_ w B x cs) : ∃ A n c, cs = [.slice A n c, .int .i64 x.Value] ∧ Mm.SlAt rLabel w B x.Labels A n c ∧ Mm.I64 x.Value := by
  obtain ⟨_, _, rfl, ⟨A, n, c, rfl, h0⟩, ⟨rfl, h1⟩⟩ := h
  exact ⟨A, n, c, rfl, h0, h1⟩
theorem rItem_at_mk {w : World} {B : Nat} {x : Item} {A : Option Addr} {n c : Nat} (g0 : Mm.SlAt rLabel w B x.Labels A n c) (g1 : Mm.I64 x.Value) : rItem.at_ w B x [.slice A n c, .int .i64 x.Value] :=
  ⟨_, _, rfl, ⟨A, n, c, rfl, g0⟩, ⟨rfl, g1⟩⟩
theorem rItem_own {w : World} {x : Item} {cs : List Value} {fp : List Nat} (h : rItem.own w x cs fp) : ∃ A n c f, cs = [.slice A n c, .int .i64 x.Value] ∧ fp = f ∧ Mm.SlOwn rLabel 97 w x.Labels (.slice A n c) f ∧ Mm.I64 x.Value := by
  obtain ⟨_, _, _, _, rfl, rfl, ⟨v0, rfl, h0⟩, ⟨rfl, h1, rfl⟩⟩ := h
  obtain ⟨A, n, c, rfl, _⟩ := h0.form
  exact ⟨A, n, c, _, rfl, by simp, h0, h1⟩
theorem rItem_own_mk {w : World} {x : Item} {A : Option Addr} {n c : Nat} {f : List Nat} (g0 : Mm.SlOwn rLabel 97 w x.Labels (.slice A n c) f) (g1 : Mm.I64 x.Value) : rItem.own w x [.slice A n c, .int .i64 x.Value] (f) := by
  have h : rItem.own w x _ _ := ⟨_, _, _, _, rfl, rfl, ⟨_, rfl, g0⟩, ⟨rfl, g1, rfl⟩⟩
  simpa using h
def rTotal : Mm.Rep Total := Mm.iso (fun x => (x.Labels, (x.Sum, (x.Count, (x.Least, x.Most))))) (Mm.pair rLabelS (Mm.pair Mm.int (Mm.pair Mm.int (Mm.pair Mm.int Mm.int))))
theorem rTotal_at {w : World} {B : Nat} {x : Total} {cs : List Value} (h : rTotal.at_ w B x cs) : ∃ A n c, cs = [.slice A n c, .int .i64 x.Sum, .int .i64 x.Count, .int .i64 x.Least, .int .i64 x.Most] ∧ Mm.SlAt rLabel w B x.Labels A n c ∧ Mm.I64 x.Sum ∧ Mm.I64 x.Count ∧ Mm.I64 x.Least ∧ Mm.I64 x.Most := by
  obtain ⟨_, _, rfl, ⟨A, n, c, rfl, h0⟩, ⟨_, _, rfl, ⟨rfl, h1⟩, ⟨_, _, rfl, ⟨rfl, h2⟩, ⟨_, _, rfl, ⟨rfl, h3⟩, ⟨rfl, h4⟩⟩⟩⟩⟩ := h
  exact ⟨A, n, c, rfl, h0, h1, h2, h3, h4⟩
theorem rTotal_at_mk {w : World} {B : Nat} {x : Total} {A : Option Addr} {n c : Nat} (g0 : Mm.SlAt rLabel w B x.Labels A n c) (g1 : Mm.I64 x.Sum) (g2 : Mm.I64 x.Count) (g3 : Mm.I64 x.Least) (g4 : Mm.I64 x.Most) : rTotal.at_ w B x [.slice A n c, .int .i64 x.Sum, .int .i64 x.Count, .int .i64 x.Least, .int .i64 x.Most] :=
  ⟨_, _, rfl, ⟨A, n, c, rfl, g0⟩, ⟨_, _, rfl, ⟨rfl, g1⟩, ⟨_, _, rfl, ⟨rfl, g2⟩, ⟨_, _, rfl, ⟨rfl, g3⟩, ⟨rfl, g4⟩⟩⟩⟩⟩
theorem rTotal_own {w : World} {x : Total} {cs : List Value} {fp : List Nat} (h : rTotal.own w x cs fp) : ∃ A n c f, cs = [.slice A n c, .int .i64 x.Sum, .int .i64 x.Count, .int .i64 x.Least, .int .i64 x.Most] ∧ fp = f ∧ Mm.SlOwn rLabel 97 w x.Labels (.slice A n c) f ∧ Mm.I64 x.Sum ∧ Mm.I64 x.Count ∧ Mm.I64 x.Least ∧ Mm.I64 x.Most := by
  obtain ⟨_, _, _, _, rfl, rfl, ⟨v0, rfl, h0⟩, ⟨_, _, _, _, rfl, rfl, ⟨rfl, h1, rfl⟩, ⟨_, _, _, _, rfl, rfl, ⟨rfl, h2, rfl⟩, ⟨_, _, _, _, rfl, rfl, ⟨rfl, h3, rfl⟩, ⟨rfl, h4, rfl⟩⟩⟩⟩⟩ := h
  obtain ⟨A, n, c, rfl, _⟩ := h0.form
  exact ⟨A, n, c, _, rfl, by simp, h0, h1, h2, h3, h4⟩
theorem rTotal_own_mk {w : World} {x : Total} {A : Option Addr} {n c : Nat} {f : List Nat} (g0 : Mm.SlOwn rLabel 97 w x.Labels (.slice A n c) f) (g1 : Mm.I64 x.Sum) (g2 : Mm.I64 x.Count) (g3 : Mm.I64 x.Least) (g4 : Mm.I64 x.Most) : rTotal.own w x [.slice A n c, .int .i64 x.Sum, .int .i64 x.Count, .int .i64 x.Least, .int .i64 x.Most] (f) := by
  have h : rTotal.own w x _ _ := ⟨_, _, _, _, rfl, rfl, ⟨_, rfl, g0⟩, ⟨_, _, _, _, rfl, rfl, ⟨rfl, g1, rfl⟩, ⟨_, _, _, _, rfl, rfl, ⟨rfl, g2, rfl⟩, ⟨_, _, _, _, rfl, rfl, ⟨rfl, g3, rfl⟩, ⟨rfl, g4, rfl⟩⟩⟩⟩⟩
  simpa using h
def ints : Mm.Rep (List Int) := Mm.slice Mm.int 3
def strs : Mm.Rep (List ByteArray) := Mm.slice Mm.str 9
def rItemS : Mm.Rep (List Item) := Mm.slice rItem 91
def rTotalS : Mm.Rep (List Total) := Mm.slice rTotal 50
theorem int_get {w : World} {B : Nat} {l : List Int} {A : Option Addr} {n c k : Nat} (h : Mm.SlAt Mm.int w B l A n c) (hk : k < n) :
    ∃ x b off, l[k]? = some x ∧ A = some ⟨b, off, none⟩ ∧ b < B ∧ Mm.I64 x ∧ w.cell? ⟨b, off + k, none⟩ = some (.int .i64 x) := by
  obtain ⟨x, b, off, cs, hx, hA, hb, ha, hc⟩ := h.get hk
  obtain ⟨rfl, g0⟩ := ha
  exact ⟨x, b, off, hx, hA, hb, g0, (by rw [show off + k = off + k * Mm.int.size + 0 by show _ = off + k * 1 + 0; omega]; exact hc 0 _ rfl)⟩
theorem int_get' {w : World} {B : Nat} {l : List Int} {b off n c k : Nat} (h : Mm.SlAt Mm.int w B l (some ⟨b, off, none⟩) n c) (hk : k < n) :
    ∃ x, l[k]? = some x ∧ b < B ∧ Mm.I64 x ∧ w.cell? ⟨b, off + k, none⟩ = some (.int .i64 x) := by
  obtain ⟨x, cs, hx, hb, ha, hc⟩ := h.get' hk
  obtain ⟨rfl, g0⟩ := ha
  exact ⟨x, hx, hb, g0, (by rw [show off + k = off + k * Mm.int.size + 0 by show _ = off + k * 1 + 0; omega]; exact hc 0 _ rfl)⟩
theorem int_ocell {w : World} {e : TypeId} {xs : List Int} {g n c i : Nat} {x : Int} {fp : List Nat} (h : Mm.SlOwn Mm.int e w xs (.slice (some ⟨g, 0, none⟩) n c) fp) (hnd : fp.Nodup) (hi : xs[i]? = some x) : w.cell? ⟨g, i, none⟩ = some (.int .i64 x) := by
  obtain ⟨cs, fx, hown, _, _, hc, _⟩ := h.inner hnd hi
  obtain ⟨rfl, _, _⟩ := hown
  exact ((by have e0 := hc 0 _ rfl; rwa [show i * Mm.int.size + 0 = i by show i * 1 + 0 = i; omega] at e0))
theorem str_get {w : World} {B : Nat} {l : List ByteArray} {A : Option Addr} {n c k : Nat} (h : Mm.SlAt Mm.str w B l A n c) (hk : k < n) :
    ∃ x b off, l[k]? = some x ∧ A = some ⟨b, off, none⟩ ∧ b < B ∧ x.size ≤ maxLen ∧ w.cell? ⟨b, off + k, none⟩ = some (.string x) := by
  obtain ⟨x, b, off, cs, hx, hA, hb, ha, hc⟩ := h.get hk
  obtain ⟨rfl, g0⟩ := ha
  exact ⟨x, b, off, hx, hA, hb, g0, (by rw [show off + k = off + k * Mm.str.size + 0 by show _ = off + k * 1 + 0; omega]; exact hc 0 _ rfl)⟩
theorem str_get' {w : World} {B : Nat} {l : List ByteArray} {b off n c k : Nat} (h : Mm.SlAt Mm.str w B l (some ⟨b, off, none⟩) n c) (hk : k < n) :
    ∃ x, l[k]? = some x ∧ b < B ∧ x.size ≤ maxLen ∧ w.cell? ⟨b, off + k, none⟩ = some (.string x) := by
  obtain ⟨x, cs, hx, hb, ha, hc⟩ := h.get' hk
  obtain ⟨rfl, g0⟩ := ha
  exact ⟨x, hx, hb, g0, (by rw [show off + k = off + k * Mm.str.size + 0 by show _ = off + k * 1 + 0; omega]; exact hc 0 _ rfl)⟩
theorem str_ocell {w : World} {e : TypeId} {xs : List ByteArray} {g n c i : Nat} {x : ByteArray} {fp : List Nat} (h : Mm.SlOwn Mm.str e w xs (.slice (some ⟨g, 0, none⟩) n c) fp) (hnd : fp.Nodup) (hi : xs[i]? = some x) : w.cell? ⟨g, i, none⟩ = some (.string x) := by
  obtain ⟨cs, fx, hown, _, _, hc, _⟩ := h.inner hnd hi
  obtain ⟨rfl, _, _⟩ := hown
  exact ((by have e0 := hc 0 _ rfl; rwa [show i * Mm.str.size + 0 = i by show i * 1 + 0 = i; omega] at e0))
theorem rLabel_get {w : World} {B : Nat} {l : List Label} {A : Option Addr} {n c k : Nat} (h : Mm.SlAt rLabel w B l A n c) (hk : k < n) :
    ∃ x b off, l[k]? = some x ∧ A = some ⟨b, off, none⟩ ∧ b < B ∧ x.Name.size ≤ maxLen ∧ x.Value.size ≤ maxLen ∧ w.cell? ⟨b, off + k * 2, none⟩ = some (.string x.Name) ∧ w.cell? ⟨b, off + k * 2 + 1, none⟩ = some (.string x.Value) := by
  obtain ⟨x, b, off, cs, hx, hA, hb, ha, hc⟩ := h.get hk
  obtain ⟨rfl, g0, g1⟩ := rLabel_at ha
  exact ⟨x, b, off, hx, hA, hb, g0, g1, hc 0 _ rfl, hc 1 _ rfl⟩
theorem rLabel_get' {w : World} {B : Nat} {l : List Label} {b off n c k : Nat} (h : Mm.SlAt rLabel w B l (some ⟨b, off, none⟩) n c) (hk : k < n) :
    ∃ x, l[k]? = some x ∧ b < B ∧ x.Name.size ≤ maxLen ∧ x.Value.size ≤ maxLen ∧ w.cell? ⟨b, off + k * 2, none⟩ = some (.string x.Name) ∧ w.cell? ⟨b, off + k * 2 + 1, none⟩ = some (.string x.Value) := by
  obtain ⟨x, cs, hx, hb, ha, hc⟩ := h.get' hk
  obtain ⟨rfl, g0, g1⟩ := rLabel_at ha
  exact ⟨x, hx, hb, g0, g1, hc 0 _ rfl, hc 1 _ rfl⟩
theorem rLabel_ocell {w : World} {e : TypeId} {xs : List Label} {g n c i : Nat} {x : Label} {fp : List Nat} (h : Mm.SlOwn rLabel e w xs (.slice (some ⟨g, 0, none⟩) n c) fp) (hnd : fp.Nodup) (hi : xs[i]? = some x) : w.cell? ⟨g, i * 2, none⟩ = some (.string x.Name) ∧ w.cell? ⟨g, i * 2 + 1, none⟩ = some (.string x.Value) := by
  obtain ⟨cs, fx, hown, _, _, hc, _⟩ := h.inner hnd hi
  obtain ⟨rfl, _⟩ := rLabel_own hown
  exact ⟨hc 0 _ rfl, hc 1 _ rfl⟩
theorem rItem_get {w : World} {B : Nat} {l : List Item} {A : Option Addr} {n c k : Nat} (h : Mm.SlAt rItem w B l A n c) (hk : k < n) :
    ∃ x b off A' n' c', l[k]? = some x ∧ A = some ⟨b, off, none⟩ ∧ b < B ∧ Mm.SlAt rLabel w B x.Labels A' n' c' ∧ Mm.I64 x.Value ∧ w.cell? ⟨b, off + k * 2, none⟩ = some (.slice A' n' c') ∧ w.cell? ⟨b, off + k * 2 + 1, none⟩ = some (.int .i64 x.Value) := by
  obtain ⟨x, b, off, cs, hx, hA, hb, ha, hc⟩ := h.get hk
  obtain ⟨A', n', c', rfl, g0, g1⟩ := rItem_at ha
  exact ⟨x, b, off, A', n', c', hx, hA, hb, g0, g1, hc 0 _ rfl, hc 1 _ rfl⟩
theorem rItem_get' {w : World} {B : Nat} {l : List Item} {b off n c k : Nat} (h : Mm.SlAt rItem w B l (some ⟨b, off, none⟩) n c) (hk : k < n) :
    ∃ x A' n' c', l[k]? = some x ∧ b < B ∧ Mm.SlAt rLabel w B x.Labels A' n' c' ∧ Mm.I64 x.Value ∧ w.cell? ⟨b, off + k * 2, none⟩ = some (.slice A' n' c') ∧ w.cell? ⟨b, off + k * 2 + 1, none⟩ = some (.int .i64 x.Value) := by
  obtain ⟨x, cs, hx, hb, ha, hc⟩ := h.get' hk
  obtain ⟨A', n', c', rfl, g0, g1⟩ := rItem_at ha
  exact ⟨x, A', n', c', hx, hb, g0, g1, hc 0 _ rfl, hc 1 _ rfl⟩
theorem rItem_ocell {w : World} {e : TypeId} {xs : List Item} {g n c i : Nat} {x : Item} {fp : List Nat} (h : Mm.SlOwn rItem e w xs (.slice (some ⟨g, 0, none⟩) n c) fp) (hnd : fp.Nodup) (hi : xs[i]? = some x) : ∃ A' n' c', w.cell? ⟨g, i * 2, none⟩ = some (.slice A' n' c') ∧ w.cell? ⟨g, i * 2 + 1, none⟩ = some (.int .i64 x.Value) := by
  obtain ⟨cs, fx, hown, _, _, hc, _⟩ := h.inner hnd hi
  obtain ⟨A', n', c', _, rfl, _⟩ := rItem_own hown
  exact ⟨A', n', c', hc 0 _ rfl, hc 1 _ rfl⟩
theorem rTotal_get {w : World} {B : Nat} {l : List Total} {A : Option Addr} {n c k : Nat} (h : Mm.SlAt rTotal w B l A n c) (hk : k < n) :
    ∃ x b off A' n' c', l[k]? = some x ∧ A = some ⟨b, off, none⟩ ∧ b < B ∧ Mm.SlAt rLabel w B x.Labels A' n' c' ∧ Mm.I64 x.Sum ∧ Mm.I64 x.Count ∧ Mm.I64 x.Least ∧ Mm.I64 x.Most ∧ w.cell? ⟨b, off + k * 5, none⟩ = some (.slice A' n' c') ∧ w.cell? ⟨b, off + k * 5 + 1, none⟩ = some (.int .i64 x.Sum) ∧ w.cell? ⟨b, off + k * 5 + 2, none⟩ = some (.int .i64 x.Count) ∧ w.cell? ⟨b, off + k * 5 + 3, none⟩ = some (.int .i64 x.Least) ∧ w.cell? ⟨b, off + k * 5 + 4, none⟩ = some (.int .i64 x.Most) := by
  obtain ⟨x, b, off, cs, hx, hA, hb, ha, hc⟩ := h.get hk
  obtain ⟨A', n', c', rfl, g0, g1, g2, g3, g4⟩ := rTotal_at ha
  exact ⟨x, b, off, A', n', c', hx, hA, hb, g0, g1, g2, g3, g4, hc 0 _ rfl, hc 1 _ rfl, hc 2 _ rfl, hc 3 _ rfl, hc 4 _ rfl⟩
theorem rTotal_get' {w : World} {B : Nat} {l : List Total} {b off n c k : Nat} (h : Mm.SlAt rTotal w B l (some ⟨b, off, none⟩) n c) (hk : k < n) :
    ∃ x A' n' c', l[k]? = some x ∧ b < B ∧ Mm.SlAt rLabel w B x.Labels A' n' c' ∧ Mm.I64 x.Sum ∧ Mm.I64 x.Count ∧ Mm.I64 x.Least ∧ Mm.I64 x.Most ∧ w.cell? ⟨b, off + k * 5, none⟩ = some (.slice A' n' c') ∧ w.cell? ⟨b, off + k * 5 + 1, none⟩ = some (.int .i64 x.Sum) ∧ w.cell? ⟨b, off + k * 5 + 2, none⟩ = some (.int .i64 x.Count) ∧ w.cell? ⟨b, off + k * 5 + 3, none⟩ = some (.int .i64 x.Least) ∧ w.cell? ⟨b, off + k * 5 + 4, none⟩ = some (.int .i64 x.Most) := by
  obtain ⟨x, cs, hx, hb, ha, hc⟩ := h.get' hk
  obtain ⟨A', n', c', rfl, g0, g1, g2, g3, g4⟩ := rTotal_at ha
  exact ⟨x, A', n', c', hx, hb, g0, g1, g2, g3, g4, hc 0 _ rfl, hc 1 _ rfl, hc 2 _ rfl, hc 3 _ rfl, hc 4 _ rfl⟩
theorem rTotal_ocell {w : World} {e : TypeId} {xs : List Total} {g n c i : Nat} {x : Total} {fp : List Nat} (h : Mm.SlOwn rTotal e w xs (.slice (some ⟨g, 0, none⟩) n c) fp) (hnd : fp.Nodup) (hi : xs[i]? = some x) : ∃ A' n' c', w.cell? ⟨g, i * 5, none⟩ = some (.slice A' n' c') ∧ w.cell? ⟨g, i * 5 + 1, none⟩ = some (.int .i64 x.Sum) ∧ w.cell? ⟨g, i * 5 + 2, none⟩ = some (.int .i64 x.Count) ∧ w.cell? ⟨g, i * 5 + 3, none⟩ = some (.int .i64 x.Least) ∧ w.cell? ⟨g, i * 5 + 4, none⟩ = some (.int .i64 x.Most) := by
  obtain ⟨cs, fx, hown, _, _, hc, _⟩ := h.inner hnd hi
  obtain ⟨A', n', c', _, rfl, _⟩ := rTotal_own hown
  exact ⟨A', n', c', hc 0 _ rfl, hc 1 _ rfl, hc 2 _ rfl, hc 3 _ rfl, hc 4 _ rfl⟩
end Go.Proofs.Ytnppcdiicnofpaa

/-
  From the form's own reading of an argument to the readings of Mm: for numbers, strings, structs and slices of whatever depth. No program in sight. No conditions.
-/
namespace Go.Proofs.Ytnppcdiicnofpaa
open Go.ChangeShapes Go.WideShapes Go.RowKit Go.Deep
namespace Mm

def Opens {α : Type} (P : Program) (t : TypeId) (E : Rep α) : Prop :=
  P.cellsOf t = E.size ∧ ∀ (H : Type) (enc : TypeId × Value → H) (w : World) (base : Nat) (spare : Nat → Bool) (held : Bool) (fuel : Nat) (cs : List Value) (x : DataW H × List MemPlace),
    DataW.trod enc P w base spare held fuel t cs = some x → ∃ y, E.at_ w w.heap.size y cs

variable {P : Program} {t e : TypeId}

theorem opens_int (ht : P.underlying t = some (.int .i64)) (hc : P.cellsOf t = 1) : Opens P t int := ⟨hc, fun H enc w base spare held fuel cs x h => by
  obtain ⟨n, rfl, _, hw⟩ := DataW.trod_int ht h
  refine ⟨n, rfl, ?_⟩
  simp [Lit.wf, IntKind.min, IntKind.max, IntKind.signed, IntKind.bits] at hw
  unfold I64
  omega⟩
theorem opens_bool (ht : P.underlying t = some .bool) (hc : P.cellsOf t = 1) : Opens P t bool := ⟨hc, fun H enc w base spare held fuel cs x h => by
  obtain ⟨n, rfl, _⟩ := DataW.trod_bool ht h
  exact ⟨n, rfl, trivial⟩⟩
theorem opens_str (ht : P.underlying t = some .string) (hc : P.cellsOf t = 1) : Opens P t str := ⟨hc, fun H enc w base spare held fuel cs x h => by
  obtain ⟨n, rfl, _, hw⟩ := DataW.trod_string ht h
  exact ⟨n, rfl, hw⟩⟩
theorem opens_map {α β : Type} {E : Rep α} {F : Rep β} (h : Opens P t E) (hs : E.size = F.size) (hc : ∀ w B x cs, E.at_ w B x cs → ∃ y, F.at_ w B y cs) : Opens P t F :=
  ⟨h.1.trans hs, fun H enc w base spare held fuel cs x hx => by
    obtain ⟨y, hy⟩ := h.2 H enc w base spare held fuel cs x hx
    exact hc _ _ _ _ hy⟩
theorem opens_slice {α : Type} {E : Rep α} (ht : P.underlying t = some (.slice e)) (hc : P.cellsOf t = 1) (h0 : 0 < E.size) (hE : Opens P e E) : Opens P t (slice E e) := ⟨hc, fun H enc w base spare held fuel cs x h => by
  rcases open_slice ht h with ⟨rfl, _⟩ | ⟨a, len, cap, m, n, D, Pl, rfl, hb, hl, hm, hmm, _, hi⟩
  · exact ⟨[], none, 0, 0, rfl, SlAt.nil (Nat.zero_le _) (fun _ => rfl)⟩
  · have hle : len ≤ m := by rw [hmm]; split <;> omega
    have hex : ∀ i : Fin len, ∃ y : α, ∃ cs', E.at_ w w.heap.size y cs' ∧ cs'.length = E.size ∧ ∀ j, j < E.size → w.cell? (a.add (i.1 * E.size + j)) = cs'[j]? := by
      intro i
      obtain ⟨cs', h1, h2⟩ := hi i.1 (by have := i.2; omega)
      obtain ⟨y, hy⟩ := hE.2 H enc w base spare held n cs' _ h2
      obtain ⟨_, hln, hcell⟩ := World.cells?_some h1
      rw [hE.1] at hln hcell
      exact ⟨y, cs', hy, hln, fun j hj => by rw [← Go.Deep.add_add]; exact hcell j hj⟩
    refine ⟨List.ofFn fun i : Fin len => Classical.choose (hex i), some a, len, cap, rfl, by simp, hl, hm, (fun h => by cases h), fun i y hy => ?_⟩
    have hil : i < len := by
      have := (List.getElem?_eq_some_iff.1 hy).1
      simpa using this
    obtain ⟨cs', h1, h2, h3⟩ := Classical.choose_spec (hex ⟨i, hil⟩)
    have hey : Classical.choose (hex ⟨i, hil⟩) = y := by
      rw [List.getElem?_ofFn] at hy
      simpa [hil] using hy
    rw [hey] at h1
    obtain ⟨cs0, _, h20, h30⟩ := Classical.choose_spec (hex ⟨0, by omega⟩)
    have hc0 := h30 0 h0
    rw [List.getElem?_eq_getElem (by omega)] at hc0
    obtain ⟨b, off, spot⟩ := a
    have hsp : spot = none := by
      have := World.cell?_spot hc0
      simpa [Addr.add] using this
    subst hsp
    have hadd : ∀ k : Nat, (⟨b, off, none⟩ : Addr).add k = ⟨b, off + k, none⟩ := fun k => by unfold Addr.add; split <;> simp_all
    refine ⟨b, off, cs', rfl, ?_, h1, fun j u hu => ?_⟩
    · have := World.block_lt_of_cell? w _ hc0
      rw [hadd] at this
      exact this
    · have hj : j < cs'.length := (List.getElem?_eq_some_iff.1 hu).1
      have := h3 j (by omega)
      rw [hu, hadd] at this
      rw [Nat.add_assoc]
      exact this⟩

def OpensF {α : Type} (P : Program) (l : List Field) (off : Nat) (E : Rep α) : Prop :=
  ∀ (H : Type) (enc : TypeId × Value → H) (w : World) (base : Nat) (spare : Nat → Bool) (held : Bool) (n : Nat) (cs : List Value), cs.length = off + E.size →
    (∀ (i : Nat) (f : Field), l[i]? = some f → ∃ x, DataW.trod enc P w base spare held n f.type ((cs.drop f.offset).take (P.cellsOf f.type)) = some x) → ∃ y, E.at_ w w.heap.size y (cs.drop off)
theorem opensF_one {α : Type} {E : Rep α} {f : Field} {off : Nat} (ho : f.offset = off) (h : Opens P f.type E) : OpensF P [f] off E := fun H enc w base spare held n cs hl hf => by
  obtain ⟨x, hx⟩ := hf 0 f rfl
  obtain ⟨y, hy⟩ := h.2 H enc w base spare held n _ x hx
  rw [ho, h.1, List.take_of_length_le (by rw [List.length_drop]; omega)] at hy
  exact ⟨y, hy⟩
theorem opensF_cons {α β : Type} {E : Rep α} {F : Rep β} {f : Field} {l : List Field} {off : Nat} (ho : f.offset = off) (h : Opens P f.type E) (hr : OpensF P l (off + E.size) F) : OpensF P (f :: l) off (pair E F) :=
  fun H enc w base spare held n cs hl hf => by
    obtain ⟨x, hx⟩ := hf 0 f rfl
    obtain ⟨y, hy⟩ := h.2 H enc w base spare held n _ x hx
    rw [ho, h.1] at hy
    have hl' : cs.length = off + E.size + F.size := by rw [hl]; show off + (E.size + F.size) = _; omega
    obtain ⟨z, hz⟩ := hr H enc w base spare held n cs hl' (fun i g hg => hf (i + 1) g (by simpa using hg))
    refine ⟨(y, z), _, _, ?_, hy, hz⟩
    rw [← List.drop_drop, List.take_append_drop]
theorem opens_struct {α : Type} {E : Rep α} {fs : Array Field} (ht : P.underlying t = some (.struct fs)) (hc : P.cellsOf t = E.size) (h : OpensF P fs.toList 0 E) : Opens P t E := ⟨hc, fun H enc w base spare held fuel cs x hx => by
  obtain ⟨ys, n, _, _, hlen, hyl, hf⟩ := DataW.trod_struct ht hx
  have := h H enc w base spare held n cs (by rw [hlen, hc]; omega) (fun i f hi => by
    have hi' : i < fs.size := by
      have := (List.getElem?_eq_some_iff.1 hi).1
      simpa using this
    have h2 := hf i f (by rw [← Array.getElem?_toList]; exact hi)
    rw [List.getElem?_eq_getElem (by omega)] at h2
    exact ⟨_, h2⟩)
  simpa using this⟩

/-- a parameter that is a slice -/
theorem open_sl {H : Type} {enc : TypeId × Value → H} {w : World} {base : Nat} {spare : Nat → Bool} {held : Bool} {r : Reach} {b0 : Nat} {v : Value} {d : DataW H} {p : List MemPlace} {α : Type} {E : Rep α}
    (ho : Opens P t (slice E e)) (ht : P.underlying t = some (.slice e)) (hv : Value.okWide P w r b0 t v) (h : DataW.Trod enc P w base spare held t v d p) :
    ∃ A n c xs, v = .slice A n c ∧ SlAt E w w.heap.size xs A n c := by
  obtain ⟨A, n, c, rfl⟩ := okWide_slice ht hv
  obtain ⟨fuel, hf⟩ := h
  obtain ⟨xs, A', n', c', he, hx⟩ := ho.2 H enc w base spare held fuel _ _ hf
  simp [Value.cells] at he
  obtain ⟨rfl, rfl, rfl⟩ := he
  exact ⟨A, n, c, xs, rfl, hx⟩
/-- a parameter that is a struct -/
theorem open_st {H : Type} {enc : TypeId × Value → H} {w : World} {base : Nat} {spare : Nat → Bool} {held : Bool} {r : Reach} {b0 : Nat} {v : Value} {d : DataW H} {p : List MemPlace} {α : Type} {E : Rep α} {fs : Array Field}
    (ho : Opens P t E) (ht : P.underlying t = some (.struct fs)) (hv : Value.okWide P w r b0 t v) (h : DataW.Trod enc P w base spare held t v d p) :
    ∃ (cs : List Value) (x : α), v = .agg cs.toArray ∧ E.at_ w w.heap.size x cs := by
  obtain ⟨cs, rfl, _⟩ := okWide_struct ht hv
  obtain ⟨fuel, hf⟩ := h
  obtain ⟨x, hx⟩ := ho.2 H enc w base spare held fuel _ _ hf
  exact ⟨cs.toList, x, by simp, hx⟩
end Mm
end Go.Proofs.Ytnppcdiicnofpaa

/-
  A region that draws its order: loads and calls that at most make memory, in one walk in the order of the text; behind them, in a row, what writes. No program in sight. No conditions.
-/
namespace Go.Proofs.Ytnppcdiicnofpaa
open Go.RowKit

section
variable {P : Program} {ops : Array Oper} {md : Region.Mode} {C : World → Prop}
/-- whatever comes up, for so many rounds: it is one of the first n, and quiet in C -/
def headQ (P : Program) (md : Region.Mode) (ops : Array Oper) (C : World → Prop) (n : Nat) (L : Array Bool → Act → Prop) : Nat → Array Bool → Act → Prop
  | 0, listed, a => L listed a
  | f + 1, listed, a => Region.ready md ops listed ≠ [] ∧ ∀ i ∈ Region.ready md ops listed, i < n ∧ qOp P ops C i (headQ P md ops C n L f (listed.setIfInBounds i true)) a

theorem headQ_any {n g : Nat} {L : Array Bool → Act → Prop} {Q : Exit → Act → World → Prop} (hL : ∀ listed a w, C w → L listed a → wpAny P md ops Q g listed a w) :
    ∀ (f : Nat) (listed : Array Bool) (a : Act) (w : World), C w → headQ P md ops C n L f listed a → wpAny P md ops Q (f + g) listed a w
  | 0, listed, a, w, hw, h => by rw [Nat.zero_add]; exact hL _ _ _ hw h
  | f + 1, listed, a, w, hw, h => by
    rw [show f + 1 + g = (f + g) + 1 by omega]
    exact ⟨fun h0 => absurd h0 h.1, fun i hi => wpOp_of_qOp hw (fun a' w' hw' h' => headQ_any hL f _ a' w' hw' h') (h.2 i hi).2⟩

theorem headQ_first {n i : Nat} {oi : Oper} {v : Value} {L : Array Bool → Act → Prop} (hi : ops[i]? = some oi) (hsel : ∀ (j : Nat) (o : Oper) cs b, ops[j]? = some o → o.op ≠ .select cs b)
    (hs : Region.sinkB md ops n = true) (hc : Region.chainB md ops n = true) (hn : n < ops.size) (hin : i < n) (hdone : ∀ listed a, L listed a → ∀ j ∈ Region.ready md ops listed, n ≤ j) :
    ∀ (f : Nat) (listed : Array Bool) (a : Act), HeadInv md ops n listed →
      (∀ j oj, ops[j]? = some oj → j ≠ i → listed.getD j true = false → (∀ e ∈ oj.after, Region.binds md e = true → e.on ≠ i) → oi.apart ops oj = true) →
      i ∈ Region.ready md ops listed → YieldsIn P ops C oi v a → headQ P md ops C n L f (listed.setIfInBounds i true) (a.put oi.dst v) → headQ P md ops C n L (f + 1) listed a := by
  intro f
  induction f with
  | zero =>
    intro listed a inv _ hr hy H
    have hun := (mem_ready.1 hr).1
    refine ⟨List.ne_nil_of_mem hr, fun j hj => ?_⟩
    have hjn : j < n := Nat.lt_of_not_le fun h => tail_waits hs hc hn inv _ i rfl hin hun j h hj
    refine ⟨hjn, ?_⟩
    by_cases hji : j = i
    · subst hji; exact hy.qOp hi H
    · exact absurd (hdone _ _ H j (ready_mono hj hji)) (by omega)
  | succ f ih =>
    intro listed a inv hfree hr hy H
    have hun := (mem_ready.1 hr).1
    refine ⟨List.ne_nil_of_mem hr, fun j hj => ?_⟩
    have hjn : j < n := Nat.lt_of_not_le fun h => tail_waits hs hc hn inv _ i rfl hin hun j h hj
    refine ⟨hjn, ?_⟩
    by_cases hji : j = i
    · subst hji; exact hy.qOp hi H
    · obtain ⟨hjun, oj, hoj, hall⟩ := mem_ready.1 hj
      have hnot : ∀ e ∈ oj.after, Region.binds md e = true → e.on ≠ i := fun e he hb heq => by
        have h1 := hall e he hb
        rw [heq, getD_both hun] at h1
        cases h1
      have h2 := qOp_put hoj (hfree j oj hoj hji hjun hnot) (fun cs b => hsel i oi cs b hi) (fun cs b => hsel j oj cs b hoj) hy (H.2 j (ready_mono hj hji)).2
      refine qOp_mono (fun a' h3 => ih (listed.setIfInBounds j true) a' (inv.set hj hjn) (fun k ok hk hki hku hno => hfree k ok hk hki ?_ hno) (ready_mono hr (Ne.symm hji)) h3.1 (by rw [Array.setIfInBounds_comm _ _ hji]; exact h3.2)) h2
      by_cases hjk : j = k
      · subst hjk; exact hjun
      · rwa [getD_set_ne true hjk] at hku

theorem headQ_lex {n g : Nat} {Lq : Act → Prop} (hsel : Region.noSelect ops = true) (hs : Region.sinkB md ops n = true) (hc : Region.chainB md ops n = true) (hn : n < ops.size) :
    ∀ (l : List Oper) (k : Nat) (listed : Array Bool) (a : Act), (∀ j, j < l.length → l[j]? = ops[k + j]?) → k + l.length = n → HeadInv md ops n listed →
    Region.lexHead md ops g l.length k listed = true → wpQuiet P ops C Lq l a → headQ P md ops C n (fun listed' a' => Region.seqB md ops g n listed' = true ∧ Lq a') l.length listed a
  | [], k, listed, a, _, hk, _, hB, h => by
    have : k = n := by simpa using hk
    subst this
    exact ⟨by simpa [Region.lexHead] using hB, h⟩
  | o :: l, k, listed, a, hl, hk, inv, hB, h => by
    have h0 : ops[k]? = some o := by simpa using (hl 0 (by simp)).symm
    simp only [List.length_cons, Region.lexHead, Bool.and_eq_true] at hB
    obtain ⟨⟨hr, hf⟩, hB'⟩ := hB
    simp only [List.length_cons] at hk
    have hr' : k ∈ Region.ready md ops listed := by simpa using hr
    obtain ⟨v, hy, hK⟩ := yieldsIn_of_qOp (K := wpQuiet P ops C Lq l) h0 (by unfold qOp; simp only [h0]; exact h)
    exact headQ_first h0 (Region.noSelect_spec hsel) hs hc hn (by omega) (fun listed' a' hL => seqB_ready hL.1) l.length listed a inv (Region.free_spec h0 hf) hr' hy
      (headQ_lex hsel hs hc hn l (k + 1) _ _ (fun j hj => by have := hl (j + 1) (by simp; omega); simpa [Nat.add_assoc, Nat.add_comm 1 j] using this) (by omega) (inv.set hr' (by omega)) hB' hK)
end

theorem wpQuiet_mono' {P : Program} {ops : Array Oper} {C : World → Prop} {Q Q' : Act → Prop} (hq : ∀ a, Q a → Q' a) : ∀ (l : List Oper) (a : Act), wpQuiet P ops C Q l a → wpQuiet P ops C Q' l a
  | [], a, h => hq a h
  | o :: rest, a, h => by
    unfold wpQuiet at h ⊢
    split
    · rename_i hw
      rw [if_pos hw] at h
      exact Oper.quiet_mono (fun a h => wpQuiet_mono' hq rest a h) h
    · rename_i hw
      rw [if_neg hw] at h
      exact wpQuiet_mono' hq rest _ h

/-- the first n in one walk; what stands behind them in a row, in every world in which nothing that was there has turned -/
theorem wp_region_und_tail {P : Program} {id : Nat} {Q : Exit → Act → World → Prop} {a : Act} {w : World} {l : List Oper} (n : Nat) (hm : P.follows .mixedOrders = true) (hB : Region.lexTailB .any l.toArray n = true)
    (h : wpQuiet P l.toArray (fun w' => ∃ x : Und w, w' = und w x) (fun a' => ∀ X, Below w.heap.size w X → wpList P l.toArray Q (l.drop n) a' X) (l.take n) a) : (Code.region id l.toArray true).wp P Q a w := by
  simp only [Region.lexTailB, Bool.and_eq_true, decide_eq_true_eq] at hB
  obtain ⟨⟨⟨⟨hsel, hn⟩, hs⟩, hc⟩, hlex⟩ := hB
  have hn' : n < l.length := by simpa using hn
  have htl : (l.take n).length = n := by simp; omega
  have hdl : (l.drop n).length = l.toArray.size - n := by simp
  have inv0 : HeadInv .any l.toArray n (Array.replicate l.toArray.size false) :=
    ⟨by simp, fun j oj _ hl => (by rw [getD_replicate_false] at hl; cases hl), fun t _ ht => getD_in (by simpa using ht) (getD_replicate_false _ _)⟩
  have H := headQ_lex (md := .any) (g := l.toArray.size - n) hsel hs hc hn (l.take n) 0 _ a (fun j hj => by
    have hj' : j < n := by rw [htl] at hj; exact hj
    simp [hj']) (by simpa using htl) inv0 (by rw [htl]; exact hlex) (wpQuiet_mono' (Q' := fun a' => ∀ w', (∃ x : Und w, w' = und w x) → wpList P l.toArray Q (l.drop n) a' w') (fun a' hq w' ⟨x, hx⟩ => by subst hx; exact hq _ x.h) _ _ h)
  refine wp_region_any hm ?_
  have := headQ_any (Q := Q) (C := fun w' => ∃ x : Und w, w' = und w x) (g := l.toArray.size - n) (fun listed a' w' hw' hL => by
    have := wpAny_of_seq (md := .any) (Q' := Q) (l.drop n) n listed a' w' (fun j => by simp [List.getElem?_drop]) (by rw [hdl]; exact hL.1) (hL.2 w' hw')
    rwa [hdl] at this) _ _ _ _ ⟨⟨w.drew, (Below.refl _ _).drew⟩, rfl⟩ H
  rw [htl, show n + (l.toArray.size - n) = l.toArray.size by omega] at this
  exact this
end Go.Proofs.Ytnppcdiicnofpaa

/-
  Contracts: labels and their texts. No conditions.
-/
namespace Go.Proofs.Ytnppcdiicnofpaa
open Go.RowKit
attribute [local go_sem] und_cell World.cell?_alloc_some
theorem isLabel_c (x : Label) (w : World) (h1 : x.Name.size ≤ maxLen) (h2 : x.Value.size ≤ maxLen) :
    Calls Try.prog 97 #[.agg #[.string x.Name, .string x.Value]] w fun e w' => e = .returned (.bool (Pl.labelOk x)) ∧ Below w.heap.size w w' := by
  have hb0 : Below w.heap.size w (w.alloc (.cells #[.string x.Name, .string x.Value] 97)) := below_new (Below.refl _ _) _
  cases k1 : Pl.word false x.Name.data.toList
  · go_enter Try.func97, Try.ntmps97
    go_wp2_with (go_at_call 111; refine (isWord_c _ _ _ (by assumption)).mono ?_; rintro e w' ⟨rfl, rfl⟩)
    go_ret
    exact ⟨ret_bool (by unfold Pl.labelOk; rw [k1]; rfl), hb0⟩
  · go_enter Try.func97, Try.ntmps97
    go_wp2_with (go_at_call 111; refine (isWord_c _ _ _ (by assumption)).mono ?_; rintro e w' ⟨rfl, rfl⟩)
    go_ret
    exact ⟨ret_bool (by unfold Pl.labelOk; rw [k1]; simp), hb0⟩
--%labs
set_option maxRecDepth 100000 in
set_option maxHeartbeats 2000000 in
theorem areLabels_c (l : List Label) (A : Option Addr) (n c : Nat) (w : World) (B : Nat) (hl : Mm.SlAt rLabel w B l A n c) (hB : B ≤ w.heap.size) :
    Calls Try.prog 70 #[.slice A n c] w fun e w' => e = .returned (.bool (Pl.labelsOk l)) ∧ Below w.heap.size w w' := by
  have hlen : Hid (l.length = n) := hl.1
  have hn : n ≤ maxLen := Nat.le_trans hl.2.1 hl.2.2.1
  unfold maxLen at hn
  have HL := Lib.hid hl
  clear hl
  go_enter Try.func70, Try.ntmps70
  go_wp2
  go_loopg [7] n (fun g i wr => Below w.heap.size w wr ∧ ∃ k : Nat, n - k ≤ g ∧ k ≤ n ∧ i = .int .i64 k ∧ Hid (∀ j, j < k → Pl.labP l j = true))
  case atStart => exact ⟨Below.refl _ _, 0, Nat.le_refl _, Nat.zero_le _, rfl, fun j hj => absurd hj (Nat.not_lt_zero j)⟩
  case round =>
    obtain ⟨hbel, k, hgk, hk, rfl, HU⟩ := hrel
    obtain ⟨W, rfl⟩ : ∃ W : World, W = wr := ⟨_, rfl⟩
    have HLw := Lib.hid (HL.out.keep fun b hb' => hbel.block b (Nat.lt_of_lt_of_le hb' hB))
    have HBL := Lib.hid hbel
    have hsw := hbel.size
    clear hbel
    by_cases hlt : k < n
    · obtain ⟨x, b0, off, hx, rfl, hbb, g0, g1, d0, d1⟩ := rLabel_get HLw.out hlt
      obtain ⟨z, hz, -, e0, e1, q0, q1⟩ := rLabel_get' HLw.out (show k - 1 < n by omega)
      have HP : Hid (Pl.labP l k = Pl.labQ k x z) := by show _ = _; unfold Pl.labP; rw [Pl.labAt_of hx, Pl.labAt_of hz]
      have NO : Hid (Pl.labQ k x z = false → Pl.labelsOk l = false) := fun h => by
        unfold Pl.labelsOk; rw [Pl.allB_no (by rw [hlen.out]; exact hlt) (by rw [HP.out, h])]; rfl
      clear hx hz
      have hlt' : (k : Int) < (n : Nat) := by omega
      have hlt2 : (0 : Int) ≤ (k : Nat) := by omega
      cases kk : Pl.labelOk x
      · have HV := Lib.hid (NO.out (by unfold Pl.labQ; rw [kk]; rfl))
        clear NO HP
        go_wp2
        refine wp_region_und (by kernel_rfl) (by kernel_rfl) ?_
        repeat (go_big_quiet_step ((first | (go_at_call 97; exact und_call _ (isLabel_c x _ g0 g1)))))
        refine wpQuiet_nil ?_
        intro X hX
        have hbx := Lib.hid (below_step HBL.out (below_step (below_new (Below.refl _ _) _) hX))
        go_wp2
        go_ret
        exact ⟨ret_bool HV.out.symm, hbx.out⟩
      · skip
        by_cases hk0 : k = 0
        · subst hk0
          clear q0 q1
          simp only [Nat.zero_mul, Nat.add_zero] at d0 d1
          have HN := Lib.hid (Pl.snocB HU.out (by rw [HP.out]; unfold Pl.labQ; rw [kk]; rfl))
          clear NO HP
          go_wp2
          refine wp_region_und (by kernel_rfl) (by kernel_rfl) ?_
          repeat (go_big_quiet_step ((first | (go_at_call 97; exact und_call _ (isLabel_c x _ g0 g1)))))
          refine wpQuiet_nil ?_
          intro X hX
          have hbx := Lib.hid (below_step HBL.out (below_step (below_new (Below.refl _ _) _) hX))
          go_wp2
          go_roundg (n - (0 + 1))
          case measure => omega
          case rel => exact ⟨hbx.out, 0 + 1, Nat.le_refl _, by omega, by go_num, HN.out⟩
        · obtain ⟨k, rfl⟩ : ∃ j, k = j + 1 := ⟨k - 1, by omega⟩
          rw [Nat.add_sub_cancel] at q0 q1
          have hw1 : IntKind.i64.wrap (((k + 1 : Nat) : Int) - 1) = (k : Nat) := by rw [show ((k + 1 : Nat) : Int) - 1 = (k : Nat) by omega]; exact IntWalk.i64_in _ (by omega)
          have hk3 : (0 : Int) < ((k + 1 : Nat) : Int) := by omega
          have hk4 : (0 : Int) ≤ ((k : Nat) : Int) := by omega
          have hk5 : ((k : Nat) : Int) < (n : Nat) := by omega
          cases kl : Pl.lessB z.Name x.Name
          · have kl' : Op.bytesLess z.Name.toList x.Name.toList = false := kl
            have HV := Lib.hid (NO.out (by unfold Pl.labQ; rw [kk]; rw [kl]; rfl))
            clear NO HP
            go_wp2
            refine wp_region_und (by kernel_rfl) (by kernel_rfl) ?_
            repeat (go_big_quiet_step ((first | (go_at_call 97; exact und_call _ (isLabel_c x _ g0 g1)))))
            refine wpQuiet_nil ?_
            intro X hX
            have hbx := Lib.hid (below_step HBL.out (below_step (below_new (Below.refl _ _) _) hX))
            go_wp2
            go_ret
            exact ⟨ret_bool HV.out.symm, hbx.out⟩
          · skip
            have kl' : Op.bytesLess z.Name.toList x.Name.toList = true := kl
            have HN := Lib.hid (Pl.snocB HU.out (by rw [HP.out]; unfold Pl.labQ; rw [kk]; rw [kl]; simp))
            clear NO HP
            go_wp2
            refine wp_region_und (by kernel_rfl) (by kernel_rfl) ?_
            repeat (go_big_quiet_step ((first | (go_at_call 97; exact und_call _ (isLabel_c x _ g0 g1)))))
            refine wpQuiet_nil ?_
            intro X hX
            have hbx := Lib.hid (below_step HBL.out (below_step (below_new (Below.refl _ _) _) hX))
            go_wp2
            go_roundg (n - (k + 1 + 1))
            case measure => omega
            case rel => exact ⟨hbx.out, k + 1 + 1, Nat.le_refl _, by omega, by go_num, HN.out⟩
    · have HF : Hid (Pl.labelsOk l = decide (n ≤ 6)) := by
        show _ = _
        unfold Pl.labelsOk
        rw [Pl.allB_yes (fun j hj => HU.out j (by rw [hlen.out] at hj; omega)), hlen.out]
        rfl
      obtain rfl : k = n := by omega
      go_wp2
      go_ret
      exact ⟨ret_bool (by rw [HF.out]; exact decide_eq_decide.2 (by omega)), HBL.out⟩
set_option maxRecDepth 100000 in
set_option maxHeartbeats 2000000 in
theorem GoodLabels_c (l : List Label) (A : Option Addr) (n c : Nat) (w : World) (B : Nat) (hl : Mm.SlAt rLabel w B l A n c) (hB : B ≤ w.heap.size) :
    Calls Try.prog 67 #[.slice A n c] w fun e w' => e = .returned (.bool (Pl.labelsOk l)) ∧ Below w.heap.size w w' := by
  have hlen : Hid (l.length = n) := hl.1
  have hn : n ≤ maxLen := Nat.le_trans hl.2.1 hl.2.2.1
  unfold maxLen at hn
  have HL := Lib.hid hl
  clear hl
  go_enter Try.func67, Try.ntmps67
  go_wp2
  go_loopg [7] n (fun g i wr => Below w.heap.size w wr ∧ ∃ k : Nat, n - k ≤ g ∧ k ≤ n ∧ i = .int .i64 k ∧ Hid (∀ j, j < k → Pl.labP l j = true))
  case atStart => exact ⟨Below.refl _ _, 0, Nat.le_refl _, Nat.zero_le _, rfl, fun j hj => absurd hj (Nat.not_lt_zero j)⟩
  case round =>
    obtain ⟨hbel, k, hgk, hk, rfl, HU⟩ := hrel
    obtain ⟨W, rfl⟩ : ∃ W : World, W = wr := ⟨_, rfl⟩
    have HLw := Lib.hid (HL.out.keep fun b hb' => hbel.block b (Nat.lt_of_lt_of_le hb' hB))
    have HBL := Lib.hid hbel
    have hsw := hbel.size
    clear hbel
    by_cases hlt : k < n
    · obtain ⟨x, b0, off, hx, rfl, hbb, g0, g1, d0, d1⟩ := rLabel_get HLw.out hlt
      obtain ⟨z, hz, -, e0, e1, q0, q1⟩ := rLabel_get' HLw.out (show k - 1 < n by omega)
      have HP : Hid (Pl.labP l k = Pl.labQ k x z) := by show _ = _; unfold Pl.labP; rw [Pl.labAt_of hx, Pl.labAt_of hz]
      have NO : Hid (Pl.labQ k x z = false → Pl.labelsOk l = false) := fun h => by
        unfold Pl.labelsOk; rw [Pl.allB_no (by rw [hlen.out]; exact hlt) (by rw [HP.out, h])]; rfl
      clear hx hz
      have hlt' : (k : Int) < (n : Nat) := by omega
      have hlt2 : (0 : Int) ≤ (k : Nat) := by omega
      have CN := fun q : Und (W.alloc (.cells #[.string x.Name, .string x.Value] 97)) => und_same q (l3Name_c x.Name false _ g0)
      have CV := fun q : Und (W.alloc (.cells #[.string x.Name, .string x.Value] 97)) => und_same q (l3Name_c x.Value true _ g1)
      cases k1 : Pl.word false x.Name.data.toList
      · have HV := Lib.hid (NO.out (by unfold Pl.labQ; unfold Pl.labelOk; rw [k1]; rfl))
        clear NO HP
        go_wp2
        refine wp_region_und (by kernel_rfl) (by kernel_rfl) ?_
        repeat (go_big_quiet_step ((first | (go_at_call 96; first | (with_reducible exact CN _) | (with_reducible exact CV _)))))
        refine wpQuiet_nil ?_
        intro X hX
        have hbx := Lib.hid (below_step HBL.out (below_step (below_new (Below.refl _ _) _) hX))
        go_wp2
        go_ret
        exact ⟨ret_bool HV.out.symm, hbx.out⟩
      · skip
        cases k2 : Pl.word true x.Value.data.toList
        · have HV := Lib.hid (NO.out (by unfold Pl.labQ; unfold Pl.labelOk; rw [k1, k2]; rfl))
          clear NO HP
          go_wp2
          refine wp_region_und (by kernel_rfl) (by kernel_rfl) ?_
          repeat (go_big_quiet_step ((first | (go_at_call 96; first | (with_reducible exact CN _) | (with_reducible exact CV _)))))
          refine wpQuiet_nil ?_
          intro X hX
          have hbx := Lib.hid (below_step HBL.out (below_step (below_new (Below.refl _ _) _) hX))
          go_wp2
          go_ret
          exact ⟨ret_bool HV.out.symm, hbx.out⟩
        · skip
          by_cases hk0 : k = 0
          · subst hk0
            clear q0 q1
            simp only [Nat.zero_mul, Nat.add_zero] at d0 d1
            have HN := Lib.hid (Pl.snocB HU.out (by rw [HP.out]; unfold Pl.labQ; unfold Pl.labelOk; rw [k1, k2]; rfl))
            clear NO HP
            go_wp2
            refine wp_region_und (by kernel_rfl) (by kernel_rfl) ?_
            repeat (go_big_quiet_step ((first | (go_at_call 96; first | (with_reducible exact CN _) | (with_reducible exact CV _)))))
            refine wpQuiet_nil ?_
            intro X hX
            have hbx := Lib.hid (below_step HBL.out (below_step (below_new (Below.refl _ _) _) hX))
            go_wp2
            go_roundg (n - (0 + 1))
            case measure => omega
            case rel => exact ⟨hbx.out, 0 + 1, Nat.le_refl _, by omega, by go_num, HN.out⟩
          · obtain ⟨k, rfl⟩ : ∃ j, k = j + 1 := ⟨k - 1, by omega⟩
            rw [Nat.add_sub_cancel] at q0 q1
            have hw1 : IntKind.i64.wrap (((k + 1 : Nat) : Int) - 1) = (k : Nat) := by rw [show ((k + 1 : Nat) : Int) - 1 = (k : Nat) by omega]; exact IntWalk.i64_in _ (by omega)
            have hk3 : (0 : Int) < ((k + 1 : Nat) : Int) := by omega
            have hk4 : (0 : Int) ≤ ((k : Nat) : Int) := by omega
            have hk5 : ((k : Nat) : Int) < (n : Nat) := by omega
            cases kl : Pl.lessB z.Name x.Name
            · have kl' : Op.bytesLess z.Name.toList x.Name.toList = false := kl
              have HV := Lib.hid (NO.out (by unfold Pl.labQ; unfold Pl.labelOk; rw [k1, k2]; rw [kl]; rfl))
              clear NO HP
              go_wp2
              refine wp_region_und (by kernel_rfl) (by kernel_rfl) ?_
              repeat (go_big_quiet_step ((first | (go_at_call 96; first | (with_reducible exact CN _) | (with_reducible exact CV _)))))
              refine wpQuiet_nil ?_
              intro X hX
              have hbx := Lib.hid (below_step HBL.out (below_step (below_new (Below.refl _ _) _) hX))
              go_wp2
              go_ret
              exact ⟨ret_bool HV.out.symm, hbx.out⟩
            · skip
              have kl' : Op.bytesLess z.Name.toList x.Name.toList = true := kl
              have HN := Lib.hid (Pl.snocB HU.out (by rw [HP.out]; unfold Pl.labQ; unfold Pl.labelOk; rw [k1, k2]; rw [kl]; simp))
              clear NO HP
              go_wp2
              refine wp_region_und (by kernel_rfl) (by kernel_rfl) ?_
              repeat (go_big_quiet_step ((first | (go_at_call 96; first | (with_reducible exact CN _) | (with_reducible exact CV _)))))
              refine wpQuiet_nil ?_
              intro X hX
              have hbx := Lib.hid (below_step HBL.out (below_step (below_new (Below.refl _ _) _) hX))
              go_wp2
              go_roundg (n - (k + 1 + 1))
              case measure => omega
              case rel => exact ⟨hbx.out, k + 1 + 1, Nat.le_refl _, by omega, by go_num, HN.out⟩
    · have HF : Hid (Pl.labelsOk l = decide (n ≤ 6)) := by
        show _ = _
        unfold Pl.labelsOk
        rw [Pl.allB_yes (fun j hj => HU.out j (by rw [hlen.out] at hj; omega)), hlen.out]
        rfl
      obtain rfl : k = n := by omega
      go_wp2
      go_ret
      exact ⟨ret_bool (by rw [HF.out]; exact decide_eq_decide.2 (by omega)), HBL.out⟩
--%endlabs
end Go.Proofs.Ytnppcdiicnofpaa

/-
  A slice that grows by append: 'out = append(out, x)'. No program in sight. No conditions.
-/
namespace Go.Proofs.Ytnppcdiicnofpaa
open Go.RowKit
namespace Mm
/-- all that was there in w is as it was; v holds xs, and is ours: its blocks are new since w -/
def Acc {α : Type} (E : Rep α) (t : TypeId) (w : World) (xs : List α) (v : Value) (wr : World) : Prop :=
  ∃ fp, SlOwn E t wr xs v fp ∧ fp.Nodup ∧ (∀ b, b ∈ fp → w.heap.size ≤ b) ∧ Below w.heap.size w wr
section
variable {α : Type} {E : Rep α} {t : TypeId} {w wr W2 : World} {xs : List α} {v : Value}
theorem Acc.nil (h : Below w.heap.size w wr) : Acc E t w [] (.slice none 0 0) wr := ⟨[], SlOwn.nil, List.nodup_nil, (fun b hb => by cases hb), h⟩
theorem Acc.bel (h : Acc E t w xs v wr) : Below w.heap.size w wr := by obtain ⟨_, _, _, _, hb⟩ := h; exact hb
theorem Acc.row (h : Acc E t w xs v wr) : ∀ k, v.ownBlock = some k → w.heap.size ≤ k ∧ k < wr.heap.size := by
  obtain ⟨fp, h1, h2, h3, h4⟩ := h
  have h5 := h1.olt
  obtain ⟨es, _, _, rfl⟩ := h1
  intro k hk
  have hm : k ∈ v.ownBlock.toList ++ es.flatMap (·.2) := List.mem_append_left _ (by rw [hk]; simp)
  exact ⟨h3 k hm, h5 k hm⟩
theorem Acc.addr {A : Option Addr} {n c : Nat} (h : Acc E t w xs (.slice A n c) wr) (h0 : 0 < xs.length) : ∃ g, A = some ⟨g, 0, none⟩ ∧ w.heap.size ≤ g ∧ g < wr.heap.size := by
  have hr := h.row
  obtain ⟨fp, h1, h2, h3, h4⟩ := h
  obtain ⟨es, he, ho, rfl⟩ := h1
  obtain ⟨g, cap, hf, _⟩ := ho.form h0
  injection hf with hA
  subst hA
  exact ⟨g, rfl, hr g rfl⟩
theorem Acc.frozen {g n c : Nat} (h : Acc E t w xs (.slice (some ⟨g, 0, none⟩) n c) wr) (j : Nat) : wr.frozen? ⟨g, j, none⟩ = false := by
  obtain ⟨fp, h1, h2, h3, h4⟩ := h
  exact h1.frozen j
theorem Acc.step (h : Acc E t w xs v wr) (hb : Below wr.heap.size wr W2) : Acc E t w xs v W2 := by
  obtain ⟨fp, h1, h2, h3, h4⟩ := h
  exact ⟨fp, h1.okeep fun b hb' => hb.block b (h1.olt b hb'), h2, h3, below_step h4 hb⟩
theorem Acc.form (h : Acc E t w xs v wr) : ∃ A n c, v = .slice A n c ∧ n = xs.length ∧ n ≤ c ∧ c ≤ maxLen ∧ (A = none → c = 0) := by
  obtain ⟨_, h1, _⟩ := h; exact h1.form
theorem Acc.ret {A : Option Addr} {n c : Nat} {b : Bool} (h : Acc E t w xs (.slice A n c) wr) : RetS2 E t w xs b (.returned (.tuple #[.slice A n c, .bool b])) wr := by
  obtain ⟨fp, h1, h2, h3, h4⟩ := h
  exact ⟨A, n, c, fp, rfl, h1, h2, h3, h4⟩
theorem Acc.at_ {A : Option Addr} {n c : Nat} (h : Acc E t w xs (.slice A n c) wr) : SlAt E wr wr.heap.size xs A n c := by
  obtain ⟨fp, h1, h2, h3, h4⟩ := h
  exact h1.weak h1.olt
theorem Acc.push (h : Acc E t w xs v wr) (hb2 : Below wr.heap.size wr W2) {x : α} {cx : List Value} {fx : List Nat} (hx : E.own W2 x cx fx) (hxd : fx.Nodup) (hxf : ∀ b, b ∈ fx → wr.heap.size ≤ b) :
    ∃ l, W2.ownsRow 0 t E.size v xs.length l ∧ ∀ gg cap w1, w1.ownsRow 0 t E.size (.slice (some ⟨gg, 0, none⟩) (xs.length + 1) cap) (xs.length + 1) (l ++ cx) → W2.grownBy w1 v.ownBlock → (v.ownBlock = some gg ∨ gg = W2.heap.size) →
      Acc E t w (xs ++ [x]) (.slice (some ⟨gg, 0, none⟩) (xs.length + 1) cap) w1 := by
  obtain ⟨fp, h1, h2, h3, h4⟩ := h
  have hown2 := h1.okeep (w' := W2) fun b hb => hb2.block b (h1.olt b hb)
  obtain ⟨l, ho2, hnext⟩ := hown2.push hx h2 hxd (fun b hb hm => by have := hxf b hb; have := h1.olt b hm; omega)
  refine ⟨l, ho2, fun gg cap w1 k1 k2 k3 => ?_⟩
  obtain ⟨fp', h5, h6, h7⟩ := hnext _ w1 k1 k2 (k3.elim (fun h => .inl h.symm) (fun h => .inr (by rw [h]; rfl)))
  have hs := h4.size
  have hs2 := hb2.size
  refine ⟨fp', h5, h6, fun b hb => ?_, (below_step h4 hb2).grown k2 (by omega) (fun k hk => h3 k ?_)⟩
  · rcases h7 b hb with h | h | h
    · exact h3 b h
    · have := hxf b h; omega
    · omega
  · obtain ⟨es, _, _, rfl⟩ := h1
    exact List.mem_append_left _ (by rw [hk]; simp)
end
end Mm
end Go.Proofs.Ytnppcdiicnofpaa

/-
  A slice copied by append: 'slices.Clone', 'append([]T{}, l...)', where the elements lead nowhere. No program in sight. No conditions.
-/
namespace Go.Proofs.Ytnppcdiicnofpaa
open Go.RowKit
namespace Mm
theorem flatMap_inv {β γ : Type} (f : β → List γ) (s : Nat) : ∀ (l : List β), (∀ y ∈ l, (f y).length = s) → ∀ (j : Nat) (u : γ), (l.flatMap f)[j]? = some u → ∃ i r y, j = i * s + r ∧ l[i]? = some y ∧ (f y)[r]? = some u
  | [], _, j, u, h => by simp at h
  | z :: t, hl, j, u, h => by
    have hz := hl z (by simp)
    rw [List.flatMap_cons] at h
    by_cases hj : j < s
    · rw [List.getElem?_append_left (by omega)] at h
      exact ⟨0, j, z, by omega, rfl, h⟩
    · rw [List.getElem?_append_right (by omega), hz] at h
      obtain ⟨i, r, y, h1, h2, h3⟩ := flatMap_inv f s t (fun y hy => hl y (by simp [hy])) _ _ h
      exact ⟨i + 1, r, y, by rw [Nat.add_mul]; omega, h2, h3⟩
section
variable {α : Type} {E : Rep α} {e : TypeId} {w w1 : World} {B : Nat} {xs : List α} {n c : Nat} {v : Value}
/-- the cells of a slice whose elements lead nowhere -/
theorem flat_cells {enc : α → List Value} {b off : Nat} (hE : ∀ x cs, E.at_ w B x cs → cs = enc x) (h : SlAt E w B xs (some ⟨b, off, none⟩) n c) :
    ∀ j u, (xs.flatMap enc)[j]? = some u → w.cell? ⟨b, off + j, none⟩ = some u := by
  have hlen : ∀ y ∈ xs, (enc y).length = E.size := fun y hy => by
    obtain ⟨i, hi, rfl⟩ := List.mem_iff_getElem.1 hy
    obtain ⟨x, cs, hx, _, ha, _⟩ := h.get' (k := i) (by rw [← h.1]; exact hi)
    rw [List.getElem?_eq_getElem hi] at hx
    injection hx with hx
    subst hx
    rw [← hE _ _ ha]
    exact E.len ha
  intro j u hu
  obtain ⟨i, r, y, rfl, h2, h3⟩ := flatMap_inv enc E.size xs hlen j u hu
  obtain ⟨x, cs, hx, _, ha, hc⟩ := h.get' (k := i) (by rw [← h.1]; exact (List.getElem?_eq_some_iff.1 h2).1)
  rw [h2] at hx
  injection hx with hx
  subst hx
  rw [hE _ _ ha] at hc
  have := hc r u h3
  rwa [Nat.add_assoc] at this
theorem flat_cells' {enc : α → List Value} {a : Addr} (hE : ∀ x cs, E.at_ w B x cs → cs = enc x) (h : SlAt E w B xs (some a) n c) :
    ∀ j u, (xs.flatMap enc)[j]? = some u → w.cell? (a.add j) = some u := by
  intro j u hu
  have hn : 0 < n := by
    apply Classical.byContradiction
    intro hn
    have h0 : xs = [] := List.length_eq_zero_iff.1 (by rw [h.1]; omega)
    rw [h0] at hu
    simp at hu
  obtain ⟨x, b, off, cs, _, hA, _⟩ := h.get hn
  injection hA with hA
  subst hA
  rw [Addr.add_lit]
  exact flat_cells hE h j u hu
/-- s[k:] -/
theorem SlAt.drop {b off k : Nat} (h : SlAt E w B xs (some ⟨b, off, none⟩) n c) (hk : k ≤ n) : SlAt E w B (xs.drop k) (some ⟨b, off + k * E.size, none⟩) (n - k) (c - k) := by
  obtain ⟨h1, h2, h3, h4, h5⟩ := h
  refine ⟨by rw [List.length_drop]; omega, by omega, by omega, (fun hh => by cases hh), fun i x hx => ?_⟩
  rw [List.getElem?_drop] at hx
  obtain ⟨b', off', cs, hA, hb, ha, hc⟩ := h5 (k + i) x hx
  injection hA with hA
  injection hA with e1 e2
  subst e1; subst e2
  refine ⟨b, _, cs, rfl, hb, ha, fun j u hu => ?_⟩
  have := hc j u hu
  rw [Nat.add_mul, ← Nat.add_assoc] at this
  exact this
theorem SlOwn.of_row {enc : α → List Value} (ho : w.ownsRow 0 e E.size v n (xs.flatMap enc)) (hE : ∀ x, x ∈ xs → E.own w x (enc x) []) (hl : xs.length = n) : SlOwn E e w xs v v.ownBlock.toList := by
  have h1 : ∀ l : List α, (l.map fun x => (enc x, ([] : List Nat))).flatMap (·.1) = l.flatMap enc := fun l => by simp [List.flatMap_map]
  have h2 : ∀ l : List α, (l.map fun x => (enc x, ([] : List Nat))).flatMap (·.2) = [] := fun l => by simp [List.flatMap_map]
  subst hl
  refine ⟨xs.map fun x => (enc x, []), ⟨by simp, fun i x y hx hy => ?_⟩, by rw [h1]; exact ho, by rw [h2]; simp⟩
  rw [List.getElem?_map, hx] at hy
  simp at hy
  subst hy
  exact hE x (List.mem_of_getElem? hx)
theorem flat_len {enc : α → List Value} {A : Option Addr} (hE : ∀ x cs, E.at_ w B x cs → cs = enc x) (h : SlAt E w B xs A n c) : (xs.flatMap enc).length = n * E.size := by
  have hlen : ∀ y ∈ xs, (enc y).length = E.size := fun y hy => by
    obtain ⟨i, hi, rfl⟩ := List.mem_iff_getElem.1 hy
    obtain ⟨x, b, off, cs, hx, _, _, ha, _⟩ := h.get (k := i) (by rw [← h.1]; exact hi)
    rw [List.getElem?_eq_getElem hi] at hx
    injection hx with hx
    subst hx
    rw [← hE _ _ ha]
    exact E.len ha
  rw [← h.1]
  clear h
  induction xs with
  | nil => simp
  | cons z t ih => rw [List.flatMap_cons, List.length_append, ih (fun y hy => hlen y (by simp [hy])), hlen z (by simp), List.length_cons, Nat.add_mul]; omega
/-- what 'append(T{}, l...)' leaves, T{} laid in the newest block of w -/
theorem clone_post {enc : α → List Value} {o : Obj} {xs' : List Value} {m : Nat} (hm : m = n) (hx : xs' = xs.flatMap enc) (hown : w1.ownsRow w.heap.size e E.size v m xs') (hgrow : (w.alloc o).grownBy w1 (some w.heap.size)) (hE : ∀ x, x ∈ xs → E.own w1 x (enc x) []) (hl : xs.length = n) :
    Acc E e w xs v w1 := by
  subst hm; subst hx
  have hb : ∀ k, v.ownBlock = some k → w.heap.size ≤ k := fun k hk => (hown.lt k hk).1
  have h0 : w1.ownsRow 0 e E.size v m (xs.flatMap enc) := ⟨hown.1, hown.2.imp id fun ⟨g, cap, cur, h1, _, h3⟩ => ⟨g, cap, cur, h1, Nat.zero_le _, h3⟩⟩
  refine ⟨_, SlOwn.of_row h0 hE hl, by cases v.ownBlock <;> simp, fun b hb' => hb b (by simpa using hb'), ?_⟩
  exact (below_new (Below.refl _ _) o).grown hgrow (by rw [Mm.sz1]; omega) (fun k hk => by injection hk with hk; omega)
theorem Acc.newsl (h : Acc E e w xs v w1) : NewSl E e w xs (.returned v) w1 := by
  obtain ⟨fp, h1, h2, h3, h4⟩ := h
  obtain ⟨A, n, c, rfl, _⟩ := h1.form
  exact ⟨A, n, c, fp, rfl, h1, h2, h3, h4⟩
end
section
variable {α : Type} {E : Rep α} {t : TypeId} {w wr : World} {xs : List α}
/-- element i, which leads nowhere, is stored whole -/
theorem Acc.setAll {g n c i : Nat} {x : α} {cs : List Value} (h : Acc E t w xs (.slice (some ⟨g, 0, none⟩) n c) wr) (hi : i < xs.length) (hx : E.own wr x cs []) :
    Acc E t w (xs.set i x) (.slice (some ⟨g, 0, none⟩) n c) (setCells wr g (i * E.size) cs) := by
  obtain ⟨fp, h1, h2, h3, h4⟩ := h
  obtain ⟨fp', k1, k2, k3⟩ := h1.set hi hx h2 List.nodup_nil (fun b hb => by cases hb)
  refine ⟨fp', k1, k2, fun b hb => h3 b ((k3 b hb).resolve_right (fun hh => by cases hh)), ?_⟩
  exact h4.grown (setCells_grown _ _ _ _) h4.size (fun k hk => by injection hk with hk; subst hk; exact h3 _ h1.mem_block)
/-- one cell of element i is stored into -/
theorem Acc.put {g n c i j : Nat} {x x' : α} {u : Value} (h : Acc E t w xs (.slice (some ⟨g, 0, none⟩) n c) wr) (hi : xs[i]? = some x) (hj : j < E.size) (hx : ∀ cs fx, E.own wr x cs fx → E.own wr x' (cs.set j u) fx) :
    Acc E t w (xs.set i x') (.slice (some ⟨g, 0, none⟩) n c) (wr.setCell ⟨g, i * E.size + j, none⟩ u) := by
  obtain ⟨fp, h1, h2, h3, h4⟩ := h
  exact ⟨fp, h1.store h2 hi hj hx, h2, h3, h4.setCell (h3 g h1.mem_block) _⟩
end
end Mm
end Go.Proofs.Ytnppcdiicnofpaa

/-
  What a call owns: a list of things in memory, no block twice, all of them new since the call began; how the list goes on when one of them is changed. No program in sight. No conditions.
-/
namespace Go.Proofs.Ytnppcdiicnofpaa
open Go.RowKit
namespace Mm
structure Thing where
  fp : List Nat
  holds : World → Prop
  keep : ∀ {w w' : World}, holds w → (∀ b, b ∈ fp → w'.heap[b]? = w.heap[b]?) → holds w'
  lt : ∀ {w : World}, holds w → ∀ b, b ∈ fp → b < w.heap.size
def tblk (g : Nat) (t : TypeId) (cs : List Value) : Thing := ⟨[g], fun w => Blk w g t cs, fun h k => h.keep (k g (by simp)), fun h b hb => by rw [List.mem_singleton.1 hb]; exact h.lt⟩
def tsl {α : Type} (E : Rep α) (e : TypeId) (xs : List α) (v : Value) (fp : List Nat) : Thing := ⟨fp, fun w => SlOwn E e w xs v fp, fun h k => h.okeep k, fun h => h.olt⟩
def tow {α : Type} (R : Rep α) (x : α) (cs : List Value) (fp : List Nat) : Thing := ⟨fp, fun w => R.own w x cs fp, fun h k => R.okeep h k, fun h => R.olt h⟩
def tnil : Thing := ⟨[], fun _ => True, fun _ _ => trivial, fun _ b hb => by cases hb⟩

structure Sep (w0 wr : World) (ts : List Thing) : Prop where
  bel : Below w0.heap.size w0 wr
  nd : (ts.flatMap (·.fp)).Nodup
  new : ∀ b, b ∈ ts.flatMap (·.fp) → w0.heap.size ≤ b
  hold : ∀ t, t ∈ ts → t.holds wr

theorem flat_split {β γ : Type} (f : β → List γ) {l : List β} {i : Nat} {x : β} (h : l[i]? = some x) (y : β) :
    l.flatMap f = (l.take i).flatMap f ++ (f x ++ (l.drop (i + 1)).flatMap f) ∧ (l.set i y).flatMap f = (l.take i).flatMap f ++ (f y ++ (l.drop (i + 1)).flatMap f) := by
  obtain ⟨hi, hx⟩ := List.getElem?_eq_some_iff.1 h
  subst hx
  constructor
  · conv => lhs; rw [show l = l.take i ++ l[i] :: l.drop (i + 1) by rw [← List.drop_eq_getElem_cons hi, List.take_append_drop]]
    rw [List.flatMap_append, List.flatMap_cons]
  · rw [List.set_eq_take_append_cons_drop, if_pos hi, List.flatMap_append, List.flatMap_cons]

section
variable {w0 wr W : World} {ts : List Thing} {t t' s : Thing} {i j : Nat}
theorem Sep.start (w : World) : Sep w w [] := ⟨Below.refl _ _, by simp, by simp, by simp⟩
theorem Sep.start' {w W : World} (h : Below w.heap.size w W) : Sep w W [] := ⟨h, by simp, by simp, by simp⟩
theorem Sep.at_ (h : Sep w0 wr ts) (i : Nat) (hi : ts[i]? = some t) : t.holds wr := h.hold t (List.mem_of_getElem? hi)
theorem Sep.mem (hi : ts[i]? = some t) {b : Nat} (hb : b ∈ t.fp) : b ∈ ts.flatMap (·.fp) := List.mem_flatMap.2 ⟨t, List.mem_of_getElem? hi, hb⟩
theorem Sep.lt (h : Sep w0 wr ts) : ∀ b, b ∈ ts.flatMap (·.fp) → b < wr.heap.size := fun b hb => by
  obtain ⟨t, ht, hb⟩ := List.mem_flatMap.1 hb
  exact t.lt (h.hold t ht) b hb
theorem Sep.ndat (h : Sep w0 wr ts) (hi : ts[i]? = some t) : t.fp.Nodup := by
  have := h.nd
  rw [(flat_split (·.fp) hi t).1] at this
  exact ((List.nodup_append.1 this).2.1 |> List.nodup_append.1).1
theorem Sep.apart (h : Sep w0 wr ts) (hi : ts[i]? = some t) (hj : ts[j]? = some s) (hij : i ≠ j) : ∀ b, b ∈ t.fp → b ∉ s.fp := by
  have hnd := h.nd
  rw [(flat_split (·.fp) hi t).1, List.nodup_append, List.nodup_append] at hnd
  intro b hb hs
  rcases Nat.lt_or_gt_of_ne hij with h1 | h1
  · refine hnd.2.1.2.2 b hb b (List.mem_flatMap.2 ⟨s, List.mem_of_getElem? (i := j - (i + 1)) ?_, hs⟩) rfl
    rw [List.getElem?_drop, show i + 1 + (j - (i + 1)) = j by omega]; exact hj
  · refine hnd.2.2 b (List.mem_flatMap.2 ⟨s, List.mem_of_getElem? (i := j) ?_, hs⟩) b (List.mem_append_left _ hb) rfl
    rw [List.getElem?_take, if_pos h1]; exact hj
theorem Sep.step (h : Sep w0 wr ts) (hb : Below wr.heap.size wr W) : Sep w0 W ts :=
  ⟨below_step h.bel hb, h.nd, h.new, fun t ht => t.keep (h.hold t ht) fun b hb' => hb.block b (h.lt b (List.mem_flatMap.2 ⟨t, ht, hb'⟩))⟩
theorem Sep.add (h : Sep w0 wr ts) (hb : Below wr.heap.size wr W) (ht : t.holds W) (hnd : t.fp.Nodup) (hnew : ∀ b, b ∈ t.fp → wr.heap.size ≤ b) : Sep w0 W (t :: ts) := by
  have h1 := h.step hb
  refine ⟨h1.bel, ?_, fun b hb' => ?_, fun u hu => ?_⟩
  · rw [List.flatMap_cons, List.nodup_append]
    exact ⟨hnd, h.nd, fun a ha b hb' e => by subst e; have := hnew a ha; have := h.lt a hb'; omega⟩
  · rw [List.flatMap_cons] at hb'
    rcases List.mem_append.1 hb' with hb' | hb'
    · have := hnew b hb'; have := h.bel.size; omega
    · exact h.new b hb'
  · rcases List.mem_cons.1 hu with rfl | hu
    · exact ht
    · exact h1.hold u hu
theorem Sep.alloc (h : Sep w0 wr ts) (t : TypeId) (cs : List Value) : Sep w0 (wr.alloc (.cells cs.toArray t)) (tblk wr.heap.size t cs :: ts) :=
  h.add (below_new (Below.refl _ _) _) (Blk.new wr t cs) (by simp [tblk]) (by simp [tblk])
theorem Sep.alloc' {g : Nat} (h : Sep w0 wr ts) (hg : wr.heap.size = g) (t : TypeId) (cs : List Value) : Sep w0 (wr.alloc (.cells cs.toArray t)) (tblk g t cs :: ts) := by subst hg; exact h.alloc t cs
/-- thing number i has been changed, and nothing else that was there -/
theorem Sep.upd (h : Sep w0 wr ts) (hi : ts[i]? = some t) (hc : Chg t.fp wr W) (ht : t'.holds W) (hnd : t'.fp.Nodup) (hsub : ∀ b, b ∈ t'.fp → b ∈ t.fp ∨ wr.heap.size ≤ b) : Sep w0 W (ts.set i t') := by
  have hs := flat_split (·.fp) hi t'
  have hN := h.nd
  rw [hs.1, List.nodup_append, List.nodup_append] at hN
  have hL := h.lt
  rw [hs.1] at hL
  refine ⟨Below.chg h.bel hc h.bel.size (fun x hx => h.new x (Sep.mem hi hx)), ?_, ?_, ?_⟩
  · rw [hs.2, List.nodup_append, List.nodup_append]
    refine ⟨hN.1, ⟨hnd, hN.2.1.2.1, fun a ha b hb e => ?_⟩, fun a ha b hb e => ?_⟩
    · subst e
      rcases hsub a ha with h1 | h1
      · exact hN.2.1.2.2 a h1 a hb rfl
      · have := hL a (List.mem_append_right _ (List.mem_append_right _ hb)); omega
    · subst e
      rcases List.mem_append.1 hb with hb | hb
      · rcases hsub a hb with h1 | h1
        · exact hN.2.2 a ha a (List.mem_append_left _ h1) rfl
        · have := hL a (List.mem_append_left _ ha); omega
      · exact hN.2.2 a ha a (List.mem_append_right _ hb) rfl
  · intro b hb
    obtain ⟨u, hu, hb2⟩ := List.mem_flatMap.1 hb
    rcases List.mem_or_eq_of_mem_set hu with h1 | h1
    · exact h.new b (List.mem_flatMap.2 ⟨u, h1, hb2⟩)
    · rw [h1] at hb2
      rcases hsub b hb2 with h1 | h1
      · exact h.new b (Sep.mem hi h1)
      · have := h.bel.size; omega
  · intro u hu
    obtain ⟨k, hk⟩ := List.mem_iff_getElem?.1 hu
    by_cases hik : i = k
    · subst hik
      rw [List.getElem?_set_self (List.getElem?_eq_some_iff.1 hi).1] at hk
      injection hk with hk
      subst hk
      exact ht
    · rw [List.getElem?_set_ne hik] at hk
      have hu' := h.hold u (List.mem_of_getElem? hk)
      exact u.keep hu' fun b hb => hc.block b (u.lt hu' b hb) (fun hm => h.apart hi hk hik b hm hb)
/-- things i and j have been changed into one -/
theorem Sep.upd2 (h : Sep w0 wr ts) (hij : i ≠ j) (hi : ts[i]? = some t) (hj : ts[j]? = some s) (hc : Chg (t.fp ++ s.fp) wr W) (ht : t'.holds W) (hnd : t'.fp.Nodup) (hsub : ∀ b, b ∈ t'.fp → b ∈ t.fp ∨ b ∈ s.fp ∨ wr.heap.size ≤ b) :
    Sep w0 W ((ts.set j tnil).set i t') := by
  -- first the two are one thing, at i
  have hji : (ts.set j tnil)[i]? = some t := by rw [List.getElem?_set_ne (Ne.symm hij)]; exact hi
  have h1 : Sep w0 wr ((ts.set j tnil).set i ⟨t.fp ++ s.fp, fun w => t.holds w ∧ s.holds w, fun hh k => ⟨t.keep hh.1 fun b hb => k b (List.mem_append_left _ hb), s.keep hh.2 fun b hb => k b (List.mem_append_right _ hb)⟩,
      fun hh b hb => (List.mem_append.1 hb).elim (t.lt hh.1 b) (s.lt hh.2 b)⟩) := by
    have h2 : Sep w0 wr (ts.set j tnil) := h.upd hj (Chg.refl _ _) trivial (by simp [tnil]) (fun b hb => by cases hb)
    have ha := h.apart hi hj hij
    have hns := h.ndat hj
    have hs := flat_split (·.fp) hji ⟨t.fp ++ s.fp, fun w => t.holds w ∧ s.holds w, fun hh k => ⟨t.keep hh.1 fun b hb => k b (List.mem_append_left _ hb), s.keep hh.2 fun b hb => k b (List.mem_append_right _ hb)⟩,
      fun hh b hb => (List.mem_append.1 hb).elim (t.lt hh.1 b) (s.lt hh.2 b)⟩
    have hN := h2.nd
    rw [hs.1, List.nodup_append, List.nodup_append] at hN
    have hap : ∀ b, b ∈ s.fp → b ∉ (ts.set j tnil).flatMap (·.fp) := fun b hb hm => by
      obtain ⟨u, hu, hb'⟩ := List.mem_flatMap.1 hm
      obtain ⟨k, hk⟩ := List.mem_iff_getElem?.1 hu
      by_cases hjk : j = k
      · subst hjk
        rw [List.getElem?_set_self (List.getElem?_eq_some_iff.1 hj).1] at hk
        injection hk with hk
        subst hk
        cases hb'
      · rw [List.getElem?_set_ne hjk] at hk
        exact h.apart hj hk hjk b hb hb'
    rw [hs.1] at hap
    refine ⟨h2.bel, ?_, ?_, ?_⟩
    · rw [hs.2, List.nodup_append, List.nodup_append]
      refine ⟨hN.1, ⟨?_, hN.2.1.2.1, fun a ha' b hb e => ?_⟩, fun a ha' b hb e => ?_⟩
      · show (t.fp ++ s.fp).Nodup
        rw [List.nodup_append]
        exact ⟨hN.2.1.1, hns, fun a h3 b h4 e => by subst e; exact ha a h3 h4⟩
      · subst e
        rcases List.mem_append.1 ha' with h3 | h3
        · exact hN.2.1.2.2 a h3 a hb rfl
        · exact hap a h3 (List.mem_append_right _ (List.mem_append_right _ hb))
      · subst e
        rcases List.mem_append.1 hb with hb | hb
        · rcases List.mem_append.1 hb with h3 | h3
          · exact hN.2.2 a ha' a (List.mem_append_left _ h3) rfl
          · exact hap a h3 (List.mem_append_left _ ha')
        · exact hN.2.2 a ha' a (List.mem_append_right _ hb) rfl
    · intro b hb
      rw [hs.2] at hb
      rcases List.mem_append.1 hb with hb | hb
      · exact h2.new b (by rw [hs.1]; exact List.mem_append_left _ hb)
      · rcases List.mem_append.1 hb with hb | hb
        · rcases List.mem_append.1 hb with h3 | h3
          · exact h.new b (Sep.mem hi h3)
          · exact h.new b (Sep.mem hj h3)
        · exact h2.new b (by rw [hs.1]; exact List.mem_append_right _ (List.mem_append_right _ hb))
    · intro u hu
      rcases List.mem_or_eq_of_mem_set hu with h3 | rfl
      · exact h2.hold u h3
      · exact ⟨h.at_ i hi, h.at_ j hj⟩
  have hlt : i < (ts.set j tnil).length := (List.getElem?_eq_some_iff.1 hji).1
  have h3 := h1.upd (i := i) (List.getElem?_set_self hlt) hc ht hnd (fun b hb => by
    rcases hsub b hb with h | h | h
    · exact .inl (List.mem_append_left _ h)
    · exact .inl (List.mem_append_right _ h)
    · exact .inr h)
  rwa [List.set_set] at h3
end
section
variable {w0 wr W2 : World} {ts : List Thing} {s : Thing} {i j : Nat}
theorem Sep.setBlk {g k : Nat} {t : TypeId} {cs : List Value} (h : Sep w0 wr ts) (i : Nat) (hi : ts[i]? = some (tblk g t cs)) (u : Value) : Sep w0 (wr.setCell ⟨g, k, none⟩ u) (ts.set i (tblk g t (cs.set k u))) :=
  h.upd hi ((Chg.refl _ _).setCell (by simp [tblk]) u) ((show Blk wr g t cs from h.at_ i hi).set_ k u) (by simp [tblk]) (fun b hb => .inl hb)
variable {α : Type} {E : Rep α} {e : TypeId} {xs : List α} {v : Value} {fp : List Nat} {x : α} {cx : List Value}
theorem Sep.putSl {g n c k m : Nat} {x x' : α} {u : Value} (h : Sep w0 wr ts) (i : Nat) (hi : ts[i]? = some (tsl E e xs (.slice (some ⟨g, 0, none⟩) n c) fp)) (hk : xs[k]? = some x) (hm : m < E.size) (hx : ∀ cs fx, E.own wr x cs fx → E.own wr x' (cs.set m u) fx) :
    Sep w0 (wr.setCell ⟨g, k * E.size + m, none⟩ u) (ts.set i (tsl E e (xs.set k x') (.slice (some ⟨g, 0, none⟩) n c) fp)) := by
  have h1 : SlOwn E e wr xs (.slice (some ⟨g, 0, none⟩) n c) fp := h.at_ i hi
  have hnd : fp.Nodup := h.ndat hi
  exact h.upd hi ((Chg.refl _ _).setCell h1.mem_block u) (h1.store hnd hk hm hx) hnd (fun b hb => .inl hb)
theorem row_in {w : World} (h : SlOwn E e w xs v fp) {k : Nat} (hk : v.ownBlock = some k) : k ∈ fp := by
  obtain ⟨es, _, _, rfl⟩ := h
  exact List.mem_append_left _ (by rw [hk]; simp)
theorem Sep.put1 {g n c k : Nat} {x x' : α} {u : Value} (h : Sep w0 wr ts) (i : Nat) (hi : ts[i]? = some (tsl E e xs (.slice (some ⟨g, 0, none⟩) n c) fp)) (hE : E.size = 1) (hk : xs[k]? = some x) (hx : ∀ cs fx, E.own wr x cs fx → E.own wr x' [u] fx) :
    Sep w0 (wr.setCell ⟨g, k, none⟩ u) (ts.set i (tsl E e (xs.set k x') (.slice (some ⟨g, 0, none⟩) n c) fp)) := by
  have h1 := h.putSl (m := 0) (u := u) (x' := x') i hi hk (by omega) (fun cs fx ho => by
    have hl := E.olen ho
    rw [hE] at hl
    obtain ⟨a, rfl⟩ := List.length_eq_one_iff.1 hl
    exact hx _ _ ho)
  rwa [show k * E.size + 0 = k by rw [hE]; omega] at h1
theorem Sep.tail {t : Thing} (h : Sep w0 wr (t :: ts)) : Sep w0 wr ts := ⟨h.bel, by have := h.nd; rw [List.flatMap_cons, List.nodup_append] at this; exact this.2.1, fun b hb => h.new b (by rw [List.flatMap_cons]; exact List.mem_append_right _ hb), fun t ht => h.hold t (List.mem_cons_of_mem _ ht)⟩
theorem sl_addr {w : World} {A : Option Addr} {n c : Nat} (h : SlOwn E e w xs (.slice A n c) fp) (h0 : 0 < xs.length) : ∃ g, A = some ⟨g, 0, none⟩ ∧ g ∈ fp ∧ n = xs.length := by
  obtain ⟨A', n', c', hv, hn, _⟩ := h.form
  injection hv with h1 h2 h3
  have hm := fun g (hg : (Value.slice A n c).ownBlock = some g) => row_in h hg
  obtain ⟨es, he, ho, rfl⟩ := h
  obtain ⟨g, cap, hf, _⟩ := ho.form h0
  injection hf with hA
  subst hA
  exact ⟨g, rfl, hm g rfl, by omega⟩
theorem Sep.own0 (h : Sep w0 wr ts) (i : Nat) (hi : ts[i]? = some (tsl E e xs v fp)) : SlOwn E e wr xs v fp ∧ fp.Nodup ∧ (∀ b, b ∈ fp → w0.heap.size ≤ b) ∧ Below w0.heap.size w0 wr :=
  ⟨h.at_ i hi, h.ndat hi, fun b hb => h.new b (Sep.mem hi hb), h.bel⟩
/-- append, the new element a thing of the list -/
theorem Sep.push (h : Sep w0 wr ts) (i j : Nat) (hij : i ≠ j) (hi : ts[i]? = some (tsl E e xs v fp)) (hj : ts[j]? = some s) (hb : Below wr.heap.size wr W2) (hx : ∀ W, s.holds W → E.own W x cx s.fp) :
    ∃ l, W2.ownsRow 0 e E.size v xs.length l ∧ ∀ gg cap w1, w1.ownsRow 0 e E.size (.slice (some ⟨gg, 0, none⟩) (xs.length + 1) cap) (xs.length + 1) (l ++ cx) → W2.grownBy w1 v.ownBlock → (v.ownBlock = some gg ∨ gg = W2.heap.size) →
      ∃ fp', Sep w0 w1 ((ts.set j tnil).set i (tsl E e (xs ++ [x]) (.slice (some ⟨gg, 0, none⟩) (xs.length + 1) cap) fp')) := by
  have h2 := h.step hb
  have ho : SlOwn E e W2 xs v fp := h2.at_ i hi
  have hs := hx _ (h2.at_ j hj)
  obtain ⟨l, k1, k2⟩ := ho.push hs (h2.ndat hi) (h2.ndat hj) (fun b hb hm => h2.apart hi hj hij b hm hb)
  refine ⟨l, k1, fun gg cap w1 g1 g2 g3 => ?_⟩
  obtain ⟨fp', m1, m2, m3⟩ := k2 _ w1 g1 g2 (g3.elim (fun h => .inl h.symm) (fun h => .inr (by rw [h]; rfl)))
  refine ⟨fp', h2.upd2 hij hi hj ?_ m1 m2 (fun b hb => ?_)⟩
  · exact ⟨g2.os, g2.tape, g2.output, g2.size, fun k hk hn => g2.block k hk (fun hh => hn (List.mem_append_left _ (row_in ho hh.symm)))⟩
  · rcases m3 b hb with h | h | h
    · exact .inl h
    · exact .inr (.inl h)
    · exact .inr (.inr (by omega))
/-- append, the new element leads nowhere -/
theorem Sep.push0 (h : Sep w0 wr ts) (i : Nat) (hi : ts[i]? = some (tsl E e xs v fp)) (hb : Below wr.heap.size wr W2) (hx : E.own W2 x cx []) :
    ∃ l, W2.ownsRow 0 e E.size v xs.length l ∧ ∀ gg cap w1, w1.ownsRow 0 e E.size (.slice (some ⟨gg, 0, none⟩) (xs.length + 1) cap) (xs.length + 1) (l ++ cx) → W2.grownBy w1 v.ownBlock → (v.ownBlock = some gg ∨ gg = W2.heap.size) →
      ∃ fp', Sep w0 w1 (ts.set i (tsl E e (xs ++ [x]) (.slice (some ⟨gg, 0, none⟩) (xs.length + 1) cap) fp')) := by
  have h2 := h.step hb
  have ho : SlOwn E e W2 xs v fp := h2.at_ i hi
  obtain ⟨l, k1, k2⟩ := ho.push hx (h2.ndat hi) List.nodup_nil (fun b hb => by cases hb)
  refine ⟨l, k1, fun gg cap w1 g1 g2 g3 => ?_⟩
  obtain ⟨fp', m1, m2, m3⟩ := k2 _ w1 g1 g2 (g3.elim (fun h => .inl h.symm) (fun h => .inr (by rw [h]; rfl)))
  refine ⟨fp', h2.upd hi ?_ m1 m2 (fun b hb => ?_)⟩
  · exact ⟨g2.os, g2.tape, g2.output, g2.size, fun k hk hn => g2.block k hk (fun hh => hn (row_in ho hh.symm))⟩
  · rcases m3 b hb with h | h | h
    · exact .inl h
    · cases h
    · exact .inr (by omega)
/-- the inside of element k is changed -/
theorem Sep.putIn {g n c k : Nat} (h : Sep w0 wr ts) (i : Nat) (hi : ts[i]? = some (tsl E e xs (.slice (some ⟨g, 0, none⟩) n c) fp)) (hk : xs[k]? = some x) :
    ∃ cs fx, E.own wr x cs fx ∧ fx.Nodup ∧ (∀ b, b ∈ fx → b ∈ fp ∧ b ≠ g) ∧ (∀ j u, cs[j]? = some u → wr.cell? ⟨g, k * E.size + j, none⟩ = some u) ∧
      ∀ W x' fx', Chg fx wr W → E.own W x' cs fx' → fx'.Nodup → (∀ b, b ∈ fx' → b ∈ fx) → ∃ fp', Sep w0 W (ts.set i (tsl E e (xs.set k x') (.slice (some ⟨g, 0, none⟩) n c) fp')) := by
  have h1 : SlOwn E e wr xs (.slice (some ⟨g, 0, none⟩) n c) fp := h.at_ i hi
  obtain ⟨cs, fx, k1, k2, k3, k4, k5⟩ := h1.inner (h.ndat hi) hk
  refine ⟨cs, fx, k1, k2, k3, k4, fun W x' fx' m1 m2 m3 m4 => ?_⟩
  obtain ⟨fp', p1, p2, p3⟩ := k5 W x' fx' m1 m2 m3 m4
  exact ⟨fp', h.upd hi (m1.more fun b hb => (k3 b hb).1) p1 p2 (fun b hb => .inl (p3 b hb))⟩
theorem SlOwn.store1 {g n c k : Nat} {w : World} {x' : α} {u : Value} (h : SlOwn E e w xs (.slice (some ⟨g, 0, none⟩) n c) fp) (hnd : fp.Nodup) (hE : E.size = 1) (hk : xs[k]? = some x) (hx : ∀ cs fx, E.own w x cs fx → E.own w x' [u] fx) :
    SlOwn E e (w.setCell ⟨g, k, none⟩ u) (xs.set k x') (.slice (some ⟨g, 0, none⟩) n c) fp := by
  have h1 := h.store (j := 0) (u := u) (x' := x') hnd hk (by omega) (fun cs fx ho => by
    have hl := E.olen ho
    rw [hE] at hl
    obtain ⟨a, rfl⟩ := List.length_eq_one_iff.1 hl
    exact hx _ _ ho)
  rwa [show k * E.size + 0 = k by rw [hE]; omega] at h1
/-- what block i holds -/
theorem Sep.cell {g k : Nat} {t : TypeId} {cs : List Value} {u : Value} (h : Sep w0 wr ts) (i : Nat) (hi : ts[i]? = some (tblk g t cs)) (hu : cs[k]? = some u) : wr.cell? ⟨g, k, none⟩ = some u := (show Blk wr g t cs from h.at_ i hi).cell hu
theorem Sep.frz {g k : Nat} {t : TypeId} {cs : List Value} (h : Sep w0 wr ts) (i : Nat) (hi : ts[i]? = some (tblk g t cs)) : wr.frozen? ⟨g, k, none⟩ = false := (show Blk wr g t cs from h.at_ i hi).frozen k
theorem Sep.blk {g : Nat} {t : TypeId} {cs : List Value} (h : Sep w0 wr ts) (i : Nat) (hi : ts[i]? = some (tblk g t cs)) : g < wr.heap.size ∧ w0.heap.size ≤ g := ⟨(show Blk wr g t cs from h.at_ i hi).lt, h.new g (Sep.mem hi (by simp [tblk]))⟩
theorem Sep.sl (h : Sep w0 wr ts) (i : Nat) (hi : ts[i]? = some (tsl E e xs v fp)) : SlOwn E e wr xs v fp := h.at_ i hi
theorem Sep.slnew (h : Sep w0 wr ts) (i : Nat) (hi : ts[i]? = some (tsl E e xs v fp)) : ∀ b, b ∈ fp → w0.heap.size ≤ b ∧ b < wr.heap.size := fun b hb => ⟨h.new b (Sep.mem hi hb), (show SlOwn E e wr xs v fp from h.at_ i hi).olt b hb⟩
theorem Sep.rowne {g : Nat} {t : TypeId} {cs : List Value} (h : Sep w0 wr ts) (i j : Nat) (hi : ts[i]? = some (tsl E e xs v fp)) (hj : ts[j]? = some (tblk g t cs)) (hij : i ≠ j) : some g ≠ v.ownBlock := fun hh => h.apart hi hj hij g (row_in (h.sl i hi) hh.symm) (by simp [tblk])
end
end Mm
end Go.Proofs.Ytnppcdiicnofpaa

/-
  The same as 'Sep', where the call was handed things that it may change: F, the blocks that came in with them. No program in sight. No conditions.
-/
namespace Go.Proofs.Ytnppcdiicnofpaa
open Go.RowKit
namespace Mm
structure SepF (F : List Nat) (w0 wr : World) (ts : List Thing) : Prop where
  chg : Chg F w0 wr
  nd : (ts.flatMap (·.fp)).Nodup
  new : ∀ b, b ∈ ts.flatMap (·.fp) → b ∈ F ∨ w0.heap.size ≤ b
  hold : ∀ t, t ∈ ts → t.holds wr
/-- a struct behind a pointer -/
def tptr {α : Type} (R : Rep α) (t : TypeId) (g : Nat) (x : α) (fp : List Nat) : Thing :=
  ⟨g :: fp, fun w => ∃ cs, Blk w g t cs ∧ R.own w x cs fp, fun ⟨cs, h1, h2⟩ k => ⟨cs, h1.keep (k g (by simp)), R.okeep h2 fun b hb => k b (List.mem_cons_of_mem _ hb)⟩,
    fun ⟨cs, h1, h2⟩ b hb => by
      rcases List.mem_cons.1 hb with rfl | hb
      · exact h1.lt
      · exact R.olt h2 b hb⟩
/-- what a call leaves of a thing that it was handed -/
def Left (F : List Nat) (w w' : World) (t : Thing) : Prop := Chg F w w' ∧ t.fp.Nodup ∧ (∀ b, b ∈ t.fp → b ∈ F ∨ w.heap.size ≤ b) ∧ t.holds w'
section
variable {F : List Nat} {w0 wr W : World} {ts : List Thing} {t t' s : Thing} {i j : Nat}
theorem SepF.one (t : Thing) (w : World) (h : t.holds w) (hn : t.fp.Nodup) : SepF t.fp w w [t] := ⟨Chg.refl _ _, by simpa using hn, fun b hb => .inl (by simpa using hb), fun u hu => by rw [List.mem_singleton.1 hu]; exact h⟩
theorem SepF.conv {us : List Thing} (h : SepF F w0 wr ts) (hp : (us.flatMap (·.fp)).Perm (ts.flatMap (·.fp))) (hh : ∀ u, u ∈ us → u.holds wr) : SepF F w0 wr us :=
  ⟨h.chg, hp.nodup_iff.2 h.nd, fun b hb => h.new b (hp.mem_iff.1 hb), hh⟩
theorem SepF.chgon (h : SepF F w0 wr ts) (hi : ts[i]? = some t) (hc : Chg t.fp wr W) : Chg F w0 W := by
  refine ⟨hc.os.trans h.chg.os, hc.tape.trans h.chg.tape, hc.output.trans h.chg.output, Nat.le_trans h.chg.size hc.size, fun k hk hn => ?_⟩
  have hkw : k < wr.heap.size := Nat.lt_of_lt_of_le hk h.chg.size
  refine (hc.block k hkw fun hm => ?_).trans (h.chg.block k hk hn)
  rcases h.new k (List.mem_flatMap.2 ⟨t, List.mem_of_getElem? hi, hm⟩) with h1 | h1
  · exact hn h1
  · omega
theorem SepF.left (h : SepF F w0 wr [t]) : Left F w0 wr t := ⟨h.chg, by simpa using h.nd, fun b hb => h.new b (by simpa using hb), h.hold t (by simp)⟩
theorem SepF.at_ (h : SepF F w0 wr ts) (i : Nat) (hi : ts[i]? = some t) : t.holds wr := h.hold t (List.mem_of_getElem? hi)
theorem SepF.mem (hi : ts[i]? = some t) {b : Nat} (hb : b ∈ t.fp) : b ∈ ts.flatMap (·.fp) := List.mem_flatMap.2 ⟨t, List.mem_of_getElem? hi, hb⟩
theorem SepF.lt (h : SepF F w0 wr ts) : ∀ b, b ∈ ts.flatMap (·.fp) → b < wr.heap.size := fun b hb => by
  obtain ⟨t, ht, hb⟩ := List.mem_flatMap.1 hb
  exact t.lt (h.hold t ht) b hb
theorem SepF.ndat (h : SepF F w0 wr ts) (hi : ts[i]? = some t) : t.fp.Nodup := by
  have := h.nd
  rw [(flat_split (·.fp) hi t).1] at this
  exact ((List.nodup_append.1 this).2.1 |> List.nodup_append.1).1
theorem SepF.apart (h : SepF F w0 wr ts) (hi : ts[i]? = some t) (hj : ts[j]? = some s) (hij : i ≠ j) : ∀ b, b ∈ t.fp → b ∉ s.fp := by
  have hnd := h.nd
  rw [(flat_split (·.fp) hi t).1, List.nodup_append, List.nodup_append] at hnd
  intro b hb hs
  rcases Nat.lt_or_gt_of_ne hij with h1 | h1
  · refine hnd.2.1.2.2 b hb b (List.mem_flatMap.2 ⟨s, List.mem_of_getElem? (i := j - (i + 1)) ?_, hs⟩) rfl
    rw [List.getElem?_drop, show i + 1 + (j - (i + 1)) = j by omega]; exact hj
  · refine hnd.2.2 b (List.mem_flatMap.2 ⟨s, List.mem_of_getElem? (i := j) ?_, hs⟩) b (List.mem_append_left _ hb) rfl
    rw [List.getElem?_take, if_pos h1]; exact hj
theorem SepF.step (h : SepF F w0 wr ts) (hb : Below wr.heap.size wr W) : SepF F w0 W ts :=
  ⟨h.chg.trans (Chg.of_below hb), h.nd, h.new, fun t ht => t.keep (h.hold t ht) fun b hb' => hb.block b (h.lt b (List.mem_flatMap.2 ⟨t, ht, hb'⟩))⟩
theorem SepF.add (h : SepF F w0 wr ts) (hb : Below wr.heap.size wr W) (ht : t.holds W) (hnd : t.fp.Nodup) (hnew : ∀ b, b ∈ t.fp → wr.heap.size ≤ b) : SepF F w0 W (t :: ts) := by
  have h1 := h.step hb
  refine ⟨h1.chg, ?_, fun b hb' => ?_, fun u hu => ?_⟩
  · rw [List.flatMap_cons, List.nodup_append]
    exact ⟨hnd, h.nd, fun a ha b hb' e => by subst e; have := hnew a ha; have := h.lt a hb'; omega⟩
  · rw [List.flatMap_cons] at hb'
    rcases List.mem_append.1 hb' with hb' | hb'
    · have := hnew b hb'; have := h.chg.size; exact .inr (by omega)
    · exact h.new b hb'
  · rcases List.mem_cons.1 hu with rfl | hu
    · exact ht
    · exact h1.hold u hu
theorem SepF.alloc (h : SepF F w0 wr ts) (t : TypeId) (cs : List Value) : SepF F w0 (wr.alloc (.cells cs.toArray t)) (tblk wr.heap.size t cs :: ts) :=
  h.add (below_new (Below.refl _ _) _) (Blk.new wr t cs) (by simp [tblk]) (by simp [tblk])
theorem SepF.alloc' {g : Nat} (h : SepF F w0 wr ts) (hg : wr.heap.size = g) (t : TypeId) (cs : List Value) : SepF F w0 (wr.alloc (.cells cs.toArray t)) (tblk g t cs :: ts) := by subst hg; exact h.alloc t cs
/-- thing number i has been changed, and nothing else that was there -/
theorem SepF.upd (h : SepF F w0 wr ts) (hi : ts[i]? = some t) (hc : Chg t.fp wr W) (ht : t'.holds W) (hnd : t'.fp.Nodup) (hsub : ∀ b, b ∈ t'.fp → b ∈ t.fp ∨ wr.heap.size ≤ b) : SepF F w0 W (ts.set i t') := by
  have hs := flat_split (·.fp) hi t'
  have hN := h.nd
  rw [hs.1, List.nodup_append, List.nodup_append] at hN
  have hL := h.lt
  rw [hs.1] at hL
  refine ⟨h.chgon hi hc, ?_, ?_, ?_⟩
  · rw [hs.2, List.nodup_append, List.nodup_append]
    refine ⟨hN.1, ⟨hnd, hN.2.1.2.1, fun a ha b hb e => ?_⟩, fun a ha b hb e => ?_⟩
    · subst e
      rcases hsub a ha with h1 | h1
      · exact hN.2.1.2.2 a h1 a hb rfl
      · have := hL a (List.mem_append_right _ (List.mem_append_right _ hb)); omega
    · subst e
      rcases List.mem_append.1 hb with hb | hb
      · rcases hsub a hb with h1 | h1
        · exact hN.2.2 a ha a (List.mem_append_left _ h1) rfl
        · have := hL a (List.mem_append_left _ ha); omega
      · exact hN.2.2 a ha a (List.mem_append_right _ hb) rfl
  · intro b hb
    obtain ⟨u, hu, hb2⟩ := List.mem_flatMap.1 hb
    rcases List.mem_or_eq_of_mem_set hu with h1 | h1
    · exact h.new b (List.mem_flatMap.2 ⟨u, h1, hb2⟩)
    · rw [h1] at hb2
      rcases hsub b hb2 with h1 | h1
      · exact h.new b (SepF.mem hi h1)
      · have := h.chg.size; exact .inr (by omega)
  · intro u hu
    obtain ⟨k, hk⟩ := List.mem_iff_getElem?.1 hu
    by_cases hik : i = k
    · subst hik
      rw [List.getElem?_set_self (List.getElem?_eq_some_iff.1 hi).1] at hk
      injection hk with hk
      subst hk
      exact ht
    · rw [List.getElem?_set_ne hik] at hk
      have hu' := h.hold u (List.mem_of_getElem? hk)
      exact u.keep hu' fun b hb => hc.block b (u.lt hu' b hb) (fun hm => h.apart hi hk hik b hm hb)
/-- behind a call that was handed thing i -/
theorem SepF.call (h : SepF F w0 wr ts) (i : Nat) (hi : ts[i]? = some t) (hl : Left t.fp wr W t') : SepF F w0 W (ts.set i t') := h.upd hi hl.1 hl.2.2.2 hl.2.1 hl.2.2.1
/-- things i and j have been changed into one -/
theorem SepF.upd2 (h : SepF F w0 wr ts) (hij : i ≠ j) (hi : ts[i]? = some t) (hj : ts[j]? = some s) (hc : Chg (t.fp ++ s.fp) wr W) (ht : t'.holds W) (hnd : t'.fp.Nodup) (hsub : ∀ b, b ∈ t'.fp → b ∈ t.fp ∨ b ∈ s.fp ∨ wr.heap.size ≤ b) :
    SepF F w0 W ((ts.set j tnil).set i t') := by
  -- first the two are one thing, at i
  have hji : (ts.set j tnil)[i]? = some t := by rw [List.getElem?_set_ne (Ne.symm hij)]; exact hi
  have h1 : SepF F w0 wr ((ts.set j tnil).set i ⟨t.fp ++ s.fp, fun w => t.holds w ∧ s.holds w, fun hh k => ⟨t.keep hh.1 fun b hb => k b (List.mem_append_left _ hb), s.keep hh.2 fun b hb => k b (List.mem_append_right _ hb)⟩,
      fun hh b hb => (List.mem_append.1 hb).elim (t.lt hh.1 b) (s.lt hh.2 b)⟩) := by
    have h2 : SepF F w0 wr (ts.set j tnil) := h.upd hj (Chg.refl _ _) trivial (by simp [tnil]) (fun b hb => by cases hb)
    have ha := h.apart hi hj hij
    have hns := h.ndat hj
    have hs := flat_split (·.fp) hji ⟨t.fp ++ s.fp, fun w => t.holds w ∧ s.holds w, fun hh k => ⟨t.keep hh.1 fun b hb => k b (List.mem_append_left _ hb), s.keep hh.2 fun b hb => k b (List.mem_append_right _ hb)⟩,
      fun hh b hb => (List.mem_append.1 hb).elim (t.lt hh.1 b) (s.lt hh.2 b)⟩
    have hN := h2.nd
    rw [hs.1, List.nodup_append, List.nodup_append] at hN
    have hap : ∀ b, b ∈ s.fp → b ∉ (ts.set j tnil).flatMap (·.fp) := fun b hb hm => by
      obtain ⟨u, hu, hb'⟩ := List.mem_flatMap.1 hm
      obtain ⟨k, hk⟩ := List.mem_iff_getElem?.1 hu
      by_cases hjk : j = k
      · subst hjk
        rw [List.getElem?_set_self (List.getElem?_eq_some_iff.1 hj).1] at hk
        injection hk with hk
        subst hk
        cases hb'
      · rw [List.getElem?_set_ne hjk] at hk
        exact h.apart hj hk hjk b hb hb'
    rw [hs.1] at hap
    refine ⟨h2.chg, ?_, ?_, ?_⟩
    · rw [hs.2, List.nodup_append, List.nodup_append]
      refine ⟨hN.1, ⟨?_, hN.2.1.2.1, fun a ha' b hb e => ?_⟩, fun a ha' b hb e => ?_⟩
      · show (t.fp ++ s.fp).Nodup
        rw [List.nodup_append]
        exact ⟨hN.2.1.1, hns, fun a h3 b h4 e => by subst e; exact ha a h3 h4⟩
      · subst e
        rcases List.mem_append.1 ha' with h3 | h3
        · exact hN.2.1.2.2 a h3 a hb rfl
        · exact hap a h3 (List.mem_append_right _ (List.mem_append_right _ hb))
      · subst e
        rcases List.mem_append.1 hb with hb | hb
        · rcases List.mem_append.1 hb with h3 | h3
          · exact hN.2.2 a ha' a (List.mem_append_left _ h3) rfl
          · exact hap a h3 (List.mem_append_left _ ha')
        · exact hN.2.2 a ha' a (List.mem_append_right _ hb) rfl
    · intro b hb
      rw [hs.2] at hb
      rcases List.mem_append.1 hb with hb | hb
      · exact h2.new b (by rw [hs.1]; exact List.mem_append_left _ hb)
      · rcases List.mem_append.1 hb with hb | hb
        · rcases List.mem_append.1 hb with h3 | h3
          · exact h.new b (SepF.mem hi h3)
          · exact h.new b (SepF.mem hj h3)
        · exact h2.new b (by rw [hs.1]; exact List.mem_append_right _ (List.mem_append_right _ hb))
    · intro u hu
      rcases List.mem_or_eq_of_mem_set hu with h3 | rfl
      · exact h2.hold u h3
      · exact ⟨h.at_ i hi, h.at_ j hj⟩
  have hlt : i < (ts.set j tnil).length := (List.getElem?_eq_some_iff.1 hji).1
  have h3 := h1.upd (i := i) (List.getElem?_set_self hlt) hc ht hnd (fun b hb => by
    rcases hsub b hb with h | h | h
    · exact .inl (List.mem_append_left _ h)
    · exact .inl (List.mem_append_right _ h)
    · exact .inr h)
  rwa [List.set_set] at h3
end
section
variable {F : List Nat} {w0 wr W2 : World} {ts : List Thing} {s : Thing} {i j : Nat}
theorem SepF.setBlk {g k : Nat} {t : TypeId} {cs : List Value} (h : SepF F w0 wr ts) (i : Nat) (hi : ts[i]? = some (tblk g t cs)) (u : Value) : SepF F w0 (wr.setCell ⟨g, k, none⟩ u) (ts.set i (tblk g t (cs.set k u))) :=
  h.upd hi ((Chg.refl _ _).setCell (by simp [tblk]) u) ((show Blk wr g t cs from h.at_ i hi).set_ k u) (by simp [tblk]) (fun b hb => .inl hb)
variable {α : Type} {E : Rep α} {e : TypeId} {xs : List α} {v : Value} {fp : List Nat} {x : α} {cx : List Value}
theorem SepF.putSl {g n c k m : Nat} {x x' : α} {u : Value} (h : SepF F w0 wr ts) (i : Nat) (hi : ts[i]? = some (tsl E e xs (.slice (some ⟨g, 0, none⟩) n c) fp)) (hk : xs[k]? = some x) (hm : m < E.size) (hx : ∀ cs fx, E.own wr x cs fx → E.own wr x' (cs.set m u) fx) :
    SepF F w0 (wr.setCell ⟨g, k * E.size + m, none⟩ u) (ts.set i (tsl E e (xs.set k x') (.slice (some ⟨g, 0, none⟩) n c) fp)) := by
  have h1 : SlOwn E e wr xs (.slice (some ⟨g, 0, none⟩) n c) fp := h.at_ i hi
  have hnd : fp.Nodup := h.ndat hi
  exact h.upd hi ((Chg.refl _ _).setCell h1.mem_block u) (h1.store hnd hk hm hx) hnd (fun b hb => .inl hb)
theorem SepF.put1 {g n c k : Nat} {x x' : α} {u : Value} (h : SepF F w0 wr ts) (i : Nat) (hi : ts[i]? = some (tsl E e xs (.slice (some ⟨g, 0, none⟩) n c) fp)) (hE : E.size = 1) (hk : xs[k]? = some x) (hx : ∀ cs fx, E.own wr x cs fx → E.own wr x' [u] fx) :
    SepF F w0 (wr.setCell ⟨g, k, none⟩ u) (ts.set i (tsl E e (xs.set k x') (.slice (some ⟨g, 0, none⟩) n c) fp)) := by
  have h1 := h.putSl (m := 0) (u := u) (x' := x') i hi hk (by omega) (fun cs fx ho => by
    have hl := E.olen ho
    rw [hE] at hl
    obtain ⟨a, rfl⟩ := List.length_eq_one_iff.1 hl
    exact hx _ _ ho)
  rwa [show k * E.size + 0 = k by rw [hE]; omega] at h1
theorem SepF.tail {t : Thing} (h : SepF F w0 wr (t :: ts)) : SepF F w0 wr ts := ⟨h.chg, by have := h.nd; rw [List.flatMap_cons, List.nodup_append] at this; exact this.2.1, fun b hb => h.new b (by rw [List.flatMap_cons]; exact List.mem_append_right _ hb), fun t ht => h.hold t (List.mem_cons_of_mem _ ht)⟩
theorem SepF.own0 (h : SepF F w0 wr ts) (i : Nat) (hi : ts[i]? = some (tsl E e xs v fp)) : SlOwn E e wr xs v fp ∧ fp.Nodup ∧ (∀ b, b ∈ fp → b ∈ F ∨ w0.heap.size ≤ b) ∧ Chg F w0 wr :=
  ⟨h.at_ i hi, h.ndat hi, fun b hb => h.new b (SepF.mem hi hb), h.chg⟩
/-- append, the new element a thing of the list -/
theorem SepF.push (h : SepF F w0 wr ts) (i j : Nat) (hij : i ≠ j) (hi : ts[i]? = some (tsl E e xs v fp)) (hj : ts[j]? = some s) (hb : Below wr.heap.size wr W2) (hx : ∀ W, s.holds W → E.own W x cx s.fp) :
    ∃ l, W2.ownsRow 0 e E.size v xs.length l ∧ ∀ gg cap w1, w1.ownsRow 0 e E.size (.slice (some ⟨gg, 0, none⟩) (xs.length + 1) cap) (xs.length + 1) (l ++ cx) → W2.grownBy w1 v.ownBlock → (v.ownBlock = some gg ∨ gg = W2.heap.size) →
      ∃ fp', SepF F w0 w1 ((ts.set j tnil).set i (tsl E e (xs ++ [x]) (.slice (some ⟨gg, 0, none⟩) (xs.length + 1) cap) fp')) := by
  have h2 := h.step hb
  have ho : SlOwn E e W2 xs v fp := h2.at_ i hi
  have hs := hx _ (h2.at_ j hj)
  obtain ⟨l, k1, k2⟩ := ho.push hs (h2.ndat hi) (h2.ndat hj) (fun b hb hm => h2.apart hi hj hij b hm hb)
  refine ⟨l, k1, fun gg cap w1 g1 g2 g3 => ?_⟩
  obtain ⟨fp', m1, m2, m3⟩ := k2 _ w1 g1 g2 (g3.elim (fun h => .inl h.symm) (fun h => .inr (by rw [h]; rfl)))
  refine ⟨fp', h2.upd2 hij hi hj ?_ m1 m2 (fun b hb => ?_)⟩
  · exact ⟨g2.os, g2.tape, g2.output, g2.size, fun k hk hn => g2.block k hk (fun hh => hn (List.mem_append_left _ (row_in ho hh.symm)))⟩
  · rcases m3 b hb with h | h | h
    · exact .inl h
    · exact .inr (.inl h)
    · exact .inr (.inr (by omega))
/-- append, the new element leads nowhere -/
theorem SepF.push0 (h : SepF F w0 wr ts) (i : Nat) (hi : ts[i]? = some (tsl E e xs v fp)) (hb : Below wr.heap.size wr W2) (hx : E.own W2 x cx []) :
    ∃ l, W2.ownsRow 0 e E.size v xs.length l ∧ ∀ gg cap w1, w1.ownsRow 0 e E.size (.slice (some ⟨gg, 0, none⟩) (xs.length + 1) cap) (xs.length + 1) (l ++ cx) → W2.grownBy w1 v.ownBlock → (v.ownBlock = some gg ∨ gg = W2.heap.size) →
      ∃ fp', SepF F w0 w1 (ts.set i (tsl E e (xs ++ [x]) (.slice (some ⟨gg, 0, none⟩) (xs.length + 1) cap) fp')) := by
  have h2 := h.step hb
  have ho : SlOwn E e W2 xs v fp := h2.at_ i hi
  obtain ⟨l, k1, k2⟩ := ho.push hx (h2.ndat hi) List.nodup_nil (fun b hb => by cases hb)
  refine ⟨l, k1, fun gg cap w1 g1 g2 g3 => ?_⟩
  obtain ⟨fp', m1, m2, m3⟩ := k2 _ w1 g1 g2 (g3.elim (fun h => .inl h.symm) (fun h => .inr (by rw [h]; rfl)))
  refine ⟨fp', h2.upd hi ?_ m1 m2 (fun b hb => ?_)⟩
  · exact ⟨g2.os, g2.tape, g2.output, g2.size, fun k hk hn => g2.block k hk (fun hh => hn (row_in ho hh.symm))⟩
  · rcases m3 b hb with h | h | h
    · exact .inl h
    · cases h
    · exact .inr (by omega)
/-- the inside of element k is changed -/
theorem SepF.putIn {g n c k : Nat} (h : SepF F w0 wr ts) (i : Nat) (hi : ts[i]? = some (tsl E e xs (.slice (some ⟨g, 0, none⟩) n c) fp)) (hk : xs[k]? = some x) :
    ∃ cs fx, E.own wr x cs fx ∧ fx.Nodup ∧ (∀ b, b ∈ fx → b ∈ fp ∧ b ≠ g) ∧ (∀ j u, cs[j]? = some u → wr.cell? ⟨g, k * E.size + j, none⟩ = some u) ∧
      ∀ W x' fx', Chg fx wr W → E.own W x' cs fx' → fx'.Nodup → (∀ b, b ∈ fx' → b ∈ fx) → ∃ fp', SepF F w0 W (ts.set i (tsl E e (xs.set k x') (.slice (some ⟨g, 0, none⟩) n c) fp')) := by
  have h1 : SlOwn E e wr xs (.slice (some ⟨g, 0, none⟩) n c) fp := h.at_ i hi
  obtain ⟨cs, fx, k1, k2, k3, k4, k5⟩ := h1.inner (h.ndat hi) hk
  refine ⟨cs, fx, k1, k2, k3, k4, fun W x' fx' m1 m2 m3 m4 => ?_⟩
  obtain ⟨fp', p1, p2, p3⟩ := k5 W x' fx' m1 m2 m3 m4
  exact ⟨fp', h.upd hi (m1.more fun b hb => (k3 b hb).1) p1 p2 (fun b hb => .inl (p3 b hb))⟩
/-- what block i holds -/
theorem SepF.cell {g k : Nat} {t : TypeId} {cs : List Value} {u : Value} (h : SepF F w0 wr ts) (i : Nat) (hi : ts[i]? = some (tblk g t cs)) (hu : cs[k]? = some u) : wr.cell? ⟨g, k, none⟩ = some u := (show Blk wr g t cs from h.at_ i hi).cell hu
theorem SepF.frz {g k : Nat} {t : TypeId} {cs : List Value} (h : SepF F w0 wr ts) (i : Nat) (hi : ts[i]? = some (tblk g t cs)) : wr.frozen? ⟨g, k, none⟩ = false := (show Blk wr g t cs from h.at_ i hi).frozen k
theorem SepF.blk {g : Nat} {t : TypeId} {cs : List Value} (h : SepF F w0 wr ts) (i : Nat) (hi : ts[i]? = some (tblk g t cs)) : g < wr.heap.size ∧ (g ∈ F ∨ w0.heap.size ≤ g) := ⟨(show Blk wr g t cs from h.at_ i hi).lt, h.new g (SepF.mem hi (by simp [tblk]))⟩
theorem SepF.sl (h : SepF F w0 wr ts) (i : Nat) (hi : ts[i]? = some (tsl E e xs v fp)) : SlOwn E e wr xs v fp := h.at_ i hi
theorem SepF.slnew (h : SepF F w0 wr ts) (i : Nat) (hi : ts[i]? = some (tsl E e xs v fp)) : ∀ b, b ∈ fp → (b ∈ F ∨ w0.heap.size ≤ b) ∧ b < wr.heap.size := fun b hb => ⟨h.new b (SepF.mem hi hb), (show SlOwn E e wr xs v fp from h.at_ i hi).olt b hb⟩
theorem SepF.rowne {g : Nat} {t : TypeId} {cs : List Value} (h : SepF F w0 wr ts) (i j : Nat) (hi : ts[i]? = some (tsl E e xs v fp)) (hj : ts[j]? = some (tblk g t cs)) (hij : i ≠ j) : some g ≠ v.ownBlock := fun hh => h.apart hi hj hij g (row_in (h.sl i hi) hh.symm) (by simp [tblk])
end
end Mm
end Go.Proofs.Ytnppcdiicnofpaa

/-
  More on the list of things that a call may change: at its end, some of them, behind a call that hands back things. No program in sight. No conditions.
-/
namespace Go.Proofs.Ytnppcdiicnofpaa
open Go.RowKit
namespace Mm
section
variable {F : List Nat} {w0 wr W : World} {ts : List Thing} {t a b c d x y : Thing}
theorem SepF.addEnd (h : SepF F w0 wr ts) (hb : Below wr.heap.size wr W) (ht : t.holds W) (hnd : t.fp.Nodup) (hnew : ∀ b, b ∈ t.fp → wr.heap.size ≤ b) : SepF F w0 W (ts ++ [t]) :=
  (h.add hb ht hnd hnew).conv (by simp only [List.flatMap_append, List.flatMap_cons, List.flatMap_nil, List.append_nil]; exact List.perm_append_comm) (fun u hu => by
    rcases List.mem_append.1 hu with hu | hu
    · exact (h.step hb).hold u hu
    · rw [List.mem_singleton.1 hu]; exact ht)
theorem SepF.allocEnd {g : Nat} (h : SepF F w0 wr ts) (hg : wr.heap.size = g) (T : TypeId) (cs : List Value) : SepF F w0 (wr.alloc (.cells cs.toArray T)) (ts ++ [tblk g T cs]) := by
  subst hg
  exact h.addEnd (below_new (Below.refl _ _) _) (Blk.new wr T cs) (by simp [tblk]) (by simp [tblk])
theorem SepF.swapEnd (h : SepF F w0 wr (ts ++ [x, y])) : SepF F w0 wr (ts ++ [y, x]) :=
  h.conv (by simp only [List.flatMap_append, List.flatMap_cons, List.flatMap_nil, List.append_nil]; exact List.Perm.append_left _ List.perm_append_comm) (fun u hu => h.hold u (by
    simp only [List.mem_append, List.mem_cons, List.not_mem_nil, or_false] at hu ⊢
    rcases hu with hu | hu | hu
    · exact .inl hu
    · exact .inr (.inr hu)
    · exact .inr (.inl hu)))
/-- some of the things, by their numbers -/
theorem SepF.sel (h : SepF F w0 wr ts) : ∀ (is : List Nat) {us : List Thing}, is.Nodup → us = is.filterMap (fun i => ts[i]?) → SepF F w0 wr us
  | [], us, _, hu => by subst hu; exact ⟨h.chg, by simp, by simp, by simp⟩
  | i :: is, us, hn, hu => by
    rw [List.nodup_cons] at hn
    have ih := SepF.sel h is (us := is.filterMap (fun i => ts[i]?)) hn.2 rfl
    cases hi : ts[i]? with
    | none => rw [List.filterMap_cons, hi] at hu; rw [hu]; exact ih
    | some t =>
      rw [List.filterMap_cons, hi] at hu
      rw [hu]
      refine ⟨h.chg, ?_, fun b hb => ?_, fun u hu => ?_⟩
      · rw [List.flatMap_cons, List.nodup_append]
        refine ⟨h.ndat hi, ih.nd, fun a ha b hb e => ?_⟩
        subst e
        obtain ⟨s, hs, hb⟩ := List.mem_flatMap.1 hb
        obtain ⟨j, hj, hs⟩ := List.mem_filterMap.1 hs
        exact h.apart hi hs (fun e => hn.1 (e ▸ hj)) a ha hb
      · rw [List.flatMap_cons] at hb
        rcases List.mem_append.1 hb with hb | hb
        · exact h.new b (SepF.mem hi hb)
        · exact ih.new b hb
      · rcases List.mem_cons.1 hu with rfl | hu
        · exact h.at_ i hi
        · exact ih.hold u hu
/-- behind a call that was handed thing i, and hands back things -/
theorem SepF.callAll {us : List Thing} (h : SepF F w0 wr ts) (i : Nat) (hi : ts[i]? = some t) (hS : SepF t.fp wr W us) : SepF F w0 W (ts.set i tnil ++ us) := by
  have h1 := h.upd (t' := ⟨us.flatMap (·.fp), fun w => ∀ u, u ∈ us → u.holds w, fun hh k u hu => u.keep (hh u hu) fun b hb => k b (List.mem_flatMap.2 ⟨u, hu, hb⟩), fun hh b hb => by
    obtain ⟨u, hu, hb⟩ := List.mem_flatMap.1 hb
    exact u.lt (hh u hu) b hb⟩) hi hS.chg hS.hold hS.nd hS.new
  have e1 := (flat_split (·.fp) hi ⟨us.flatMap (·.fp), fun w => ∀ u, u ∈ us → u.holds w, fun hh k u hu => u.keep (hh u hu) fun b hb => k b (List.mem_flatMap.2 ⟨u, hu, hb⟩), fun hh b hb => by
    obtain ⟨u, hu, hb⟩ := List.mem_flatMap.1 hb
    exact u.lt (hh u hu) b hb⟩).2
  have e2 := (flat_split (·.fp) hi tnil).2
  refine h1.conv ?_ (fun u hu => ?_)
  · rw [List.flatMap_append, e1, e2]
    simp only [tnil, List.nil_append, List.append_assoc]
    exact List.Perm.append_left _ List.perm_append_comm
  · rcases List.mem_append.1 hu with hu | hu
    · obtain ⟨k, hk⟩ := List.mem_iff_getElem?.1 hu
      by_cases hik : i = k
      · subst hik
        rw [List.getElem?_set_self (List.getElem?_eq_some_iff.1 hi).1] at hk
        injection hk with hk
        subst hk
        exact trivial
      · refine h1.hold u (List.mem_of_getElem? (i := k) ?_)
        rw [List.getElem?_set_ne hik] at hk ⊢
        exact hk
    · exact hS.hold u hu
theorem SepF.start (w : World) : SepF [] w w [] := ⟨Chg.refl _ _, by simp, by simp, by simp⟩
theorem SepF.bel0 (h : SepF [] w0 wr ts) : Below w0.heap.size w0 wr := Below.chg (Below.refl _ _) h.chg (Nat.le_refl _) (by simp)
end
theorem lt_keep {w w' : World} {b : Nat} (h : b < w.heap.size) (k : w'.heap[b]? = w.heap[b]?) : b < w'.heap.size := by
  rcases Nat.lt_or_ge b w'.heap.size with h3 | h3
  · exact h3
  · rw [Array.getElem?_eq_none h3, Array.getElem?_eq_getElem h] at k
    cases k
/-- data that several variables share -/
def tpool {α : Type} (R : Rep α) (fp : List Nat) (ss : List (α × List Value)) : Thing :=
  ⟨fp, fun w => (∀ b, b ∈ fp → b < w.heap.size) ∧ ∀ p, p ∈ ss → ∃ f, (∀ b, b ∈ f → b ∈ fp) ∧ R.own w p.1 p.2 f,
    fun h k => And.intro (fun b hb => lt_keep (h.1 b hb) (k b hb)) (fun p hp => (h.2 p hp).elim fun f hf => ⟨f, hf.1, R.okeep hf.2 fun b hb => k b (hf.1 b hb)⟩), fun h => h.1⟩
theorem SepF.pool {α : Type} {R : Rep α} {F : List Nat} {w0 wr : World} {ts : List Thing} {fp : List Nat} {ss : List (α × List Value)} (h : SepF F w0 wr ts) (i : Nat) (hi : ts[i]? = some (tpool R fp ss)) {x : α} {cs : List Value} (hx : (x, cs) ∈ ss) : R.at_ wr wr.heap.size x cs := by
  obtain ⟨h1, h2⟩ := h.at_ i hi
  obtain ⟨f, h3, h4⟩ := h2 _ hx
  exact R.weak h4 (R.olt h4)
theorem SepF.pool2 {α : Type} {R : Rep α} {F : List Nat} {w0 wr : World} {ts : List Thing} {fp fx fy : List Nat} {ss ss' : List (α × List Value)} {x y : α} {cx cy : List Value} (h : SepF F w0 wr (tpool R fp ss :: tow R x cx fx :: tow R y cy fy :: ts))
    (hs : ∀ p, p ∈ ss' → p ∈ ss ∨ p = (x, cx) ∨ p = (y, cy)) : SepF F w0 wr (tpool R (fp ++ (fx ++ fy)) ss' :: ts) := by
  have h0 := h.hold _ List.mem_cons_self
  have h1 : R.own wr x cx fx := h.hold (tow R x cx fx) (by simp)
  have h2 : R.own wr y cy fy := h.hold (tow R y cy fy) (by simp)
  refine h.conv (by simp [tpool, tow]) (List.forall_mem_cons.2 ⟨⟨fun b hb => ?_, fun p hp => ?_⟩, fun u hu => h.hold u (by simp [hu])⟩)
  · rcases List.mem_append.1 hb with hb | hb
    · exact h0.1 b hb
    · rcases List.mem_append.1 hb with hb | hb
      · exact R.olt h1 b hb
      · exact R.olt h2 b hb
  · rcases hs p hp with hp | rfl | rfl
    · obtain ⟨f, h3, h4⟩ := h0.2 p hp
      exact ⟨f, fun b hb => List.mem_append_left _ (h3 b hb), h4⟩
    · exact ⟨fx, fun b hb => List.mem_append_right _ (List.mem_append_left _ hb), h1⟩
    · exact ⟨fy, fun b hb => List.mem_append_right _ (List.mem_append_right _ hb), h2⟩
/-- the reading of an owned struct among the things -/
theorem SepF.rd {α : Type} {R : Rep α} {F : List Nat} {w0 wr : World} {ts : List Thing} {x : α} {cs : List Value} {fp : List Nat} (h : SepF F w0 wr ts) (i : Nat) (hi : ts[i]? = some (tow R x cs fp)) : R.at_ wr wr.heap.size x cs := by
  have h1 : R.own wr x cs fp := h.at_ i hi
  exact R.weak h1 (R.olt h1)
end Mm
end Go.Proofs.Ytnppcdiicnofpaa
