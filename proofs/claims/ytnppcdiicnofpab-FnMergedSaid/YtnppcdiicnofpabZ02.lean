/-
  Joined texts, in build order: Se, Sf, Sx, In, Ik, Pn, Wa, Lj, Mk, Ty. Each part says what it proves; no conditions beyond those that a part names.
-/
import Derived.Test.YtnppcdiicnofpabZ01
import Derived.Shelf.Spec.SlicesInsertGrow
import Derived.Lib.AppendZerosOnto
import Derived.Lib.Overlaps
import Derived.Lib.Bytealg
import Derived.Test.YtnppcdiicnofpabRows
import Derived.WalkKit
import Derived.WalkLawsBesides
import Derived.WalkSpells
import Derived.Outline
import Derived.IntWalk
import Derived.Lib.Hide
import Derived.Shelf.Strings.OnBuilder
/-
  What a call owns: a list of things in memory, no block twice, all of them new since the call began; how the list goes on when one of them is changed. No program in sight. No conditions.
-/
namespace Go.Proofs.Ytnppcdiicnofpab
open Go.RowKit
namespace Mm
structure Thing where
  fp : List Nat
  holds : World → Prop
  keep : ∀ {w w' : World}, holds w → (∀ b, b ∈ fp → w'.heap[b]? = w.heap[b]?) → holds w'
  lt : ∀ {w : World}, holds w → ∀ b, b ∈ fp → b < w.heap.size
def tblk (g : Nat) (t : TypeId) (cs : List Value) : Thing := ⟨[g], fun w => Blk w g t cs, fun h k => h.keep (k g (by simp)), fun h b hb => by rw [List.mem_singleton.1 hb]; exact h.lt⟩
def tsl {α : Type} (E : Rep α) (e : TypeId) (xs : List α) (v : Value) (fp : List Nat) : Thing := ⟨fp, fun w => SlOwn E e w xs v fp, fun h k => h.okeep k, fun h => h.olt⟩
def tow {α : Type} (R : Rep α) (x : α) (cs : List Value) (fp : List Nat) : Thing := ⟨fp, fun w => R.own w x cs fp, fun h k => R.okeep h k, fun h => R.olt h⟩
def tnil : Thing := ⟨[], fun _ => True, fun _ _ => trivial, fun _ b hb => by cases hb⟩

structure Sep (w0 wr : World) (ts : List Thing) : Prop where
  bel : Below w0.heap.size w0 wr
  nd : (ts.flatMap (·.fp)).Nodup
  new : ∀ b, b ∈ ts.flatMap (·.fp) → w0.heap.size ≤ b
  hold : ∀ t, t ∈ ts → t.holds wr

theorem flat_split {β γ : Type} (f : β → List γ) {l : List β} {i : Nat} {x : β} (h : l[i]? = some x) (y : β) :
    l.flatMap f = (l.take i).flatMap f ++ (f x ++ (l.drop (i + 1)).flatMap f) ∧ (l.set i y).flatMap f = (l.take i).flatMap f ++ (f y ++ (l.drop (i + 1)).flatMap f) := by
  obtain ⟨hi, hx⟩ := List.getElem?_eq_some_iff.1 h
  subst hx
  constructor
  · conv => lhs; rw [show l = l.take i ++ l[i] :: l.drop (i + 1) by rw [← List.drop_eq_getElem_cons hi, List.take_append_drop]]
    rw [List.flatMap_append, List.flatMap_cons]
  · rw [List.set_eq_take_append_cons_drop, if_pos hi, List.flatMap_append, List.flatMap_cons]

section
variable {w0 wr W : World} {ts : List Thing} {t t' s : Thing} {i j : Nat}
theorem Sep.start (w : World) : Sep w w [] := ⟨Below.refl _ _, by simp, by simp, by simp⟩
theorem Sep.start' {w W : World} (h : Below w.heap.size w W) : Sep w W [] := ⟨h, by simp, by simp, by simp⟩
theorem Sep.at_ (h : Sep w0 wr ts) (i : Nat) (hi : ts[i]? = some t) : t.holds wr := h.hold t (List.mem_of_getElem? hi)
theorem Sep.mem (hi : ts[i]? = some t) {b : Nat} (hb : b ∈ t.fp) : b ∈ ts.flatMap (·.fp) := List.mem_flatMap.2 ⟨t, List.mem_of_getElem? hi, hb⟩
theorem Sep.lt (h : Sep w0 wr ts) : ∀ b, b ∈ ts.flatMap (·.fp) → b < wr.heap.size := fun b hb => by
  obtain ⟨t, ht, hb⟩ := List.mem_flatMap.1 hb
  exact t.lt (h.hold t ht) b hb
theorem Sep.ndat (h : Sep w0 wr ts) (hi : ts[i]? = some t) : t.fp.Nodup := by
  have := h.nd
  rw [(flat_split (·.fp) hi t).1] at this
  exact ((List.nodup_append.1 this).2.1 |> List.nodup_append.1).1
theorem Sep.apart (h : Sep w0 wr ts) (hi : ts[i]? = some t) (hj : ts[j]? = some s) (hij : i ≠ j) : ∀ b, b ∈ t.fp → b ∉ s.fp := by
  have hnd := h.nd
  rw [(flat_split (·.fp) hi t).1, List.nodup_append, List.nodup_append] at hnd
  intro b hb hs
  rcases Nat.lt_or_gt_of_ne hij with h1 | h1
  · refine hnd.2.1.2.2 b hb b (List.mem_flatMap.2 ⟨s, List.mem_of_getElem? (i := j - (i + 1)) ?_, hs⟩) rfl
    rw [List.getElem?_drop, show i + 1 + (j - (i + 1)) = j by omega]; exact hj
  · refine hnd.2.2 b (List.mem_flatMap.2 ⟨s, List.mem_of_getElem? (i := j) ?_, hs⟩) b (List.mem_append_left _ hb) rfl
    rw [List.getElem?_take, if_pos h1]; exact hj
theorem Sep.step (h : Sep w0 wr ts) (hb : Below wr.heap.size wr W) : Sep w0 W ts :=
  ⟨below_step h.bel hb, h.nd, h.new, fun t ht => t.keep (h.hold t ht) fun b hb' => hb.block b (h.lt b (List.mem_flatMap.2 ⟨t, ht, hb'⟩))⟩
theorem Sep.add (h : Sep w0 wr ts) (hb : Below wr.heap.size wr W) (ht : t.holds W) (hnd : t.fp.Nodup) (hnew : ∀ b, b ∈ t.fp → wr.heap.size ≤ b) : Sep w0 W (t :: ts) := by
  have h1 := h.step hb
  refine ⟨h1.bel, ?_, fun b hb' => ?_, fun u hu => ?_⟩
  · rw [List.flatMap_cons, List.nodup_append]
    exact ⟨hnd, h.nd, fun a ha b hb' e => by subst e; have := hnew a ha; have := h.lt a hb'; omega⟩
  · rw [List.flatMap_cons] at hb'
    rcases List.mem_append.1 hb' with hb' | hb'
    · have := hnew b hb'; have := h.bel.size; omega
    · exact h.new b hb'
  · rcases List.mem_cons.1 hu with rfl | hu
    · exact ht
    · exact h1.hold u hu
theorem Sep.alloc (h : Sep w0 wr ts) (t : TypeId) (cs : List Value) : Sep w0 (wr.alloc (.cells cs.toArray t)) (tblk wr.heap.size t cs :: ts) :=
  h.add (below_new (Below.refl _ _) _) (Blk.new wr t cs) (by simp [tblk]) (by simp [tblk])
theorem Sep.alloc' {g : Nat} (h : Sep w0 wr ts) (hg : wr.heap.size = g) (t : TypeId) (cs : List Value) : Sep w0 (wr.alloc (.cells cs.toArray t)) (tblk g t cs :: ts) := by subst hg; exact h.alloc t cs
/-- thing number i has been changed, and nothing else that was there -/
theorem Sep.upd (h : Sep w0 wr ts) (hi : ts[i]? = some t) (hc : Chg t.fp wr W) (ht : t'.holds W) (hnd : t'.fp.Nodup) (hsub : ∀ b, b ∈ t'.fp → b ∈ t.fp ∨ wr.heap.size ≤ b) : Sep w0 W (ts.set i t') := by
  have hs := flat_split (·.fp) hi t'
  have hN := h.nd
  rw [hs.1, List.nodup_append, List.nodup_append] at hN
  have hL := h.lt
  rw [hs.1] at hL
  refine ⟨Below.chg h.bel hc h.bel.size (fun x hx => h.new x (Sep.mem hi hx)), ?_, ?_, ?_⟩
  · rw [hs.2, List.nodup_append, List.nodup_append]
    refine ⟨hN.1, ⟨hnd, hN.2.1.2.1, fun a ha b hb e => ?_⟩, fun a ha b hb e => ?_⟩
    · subst e
      rcases hsub a ha with h1 | h1
      · exact hN.2.1.2.2 a h1 a hb rfl
      · have := hL a (List.mem_append_right _ (List.mem_append_right _ hb)); omega
    · subst e
      rcases List.mem_append.1 hb with hb | hb
      · rcases hsub a hb with h1 | h1
        · exact hN.2.2 a ha a (List.mem_append_left _ h1) rfl
        · have := hL a (List.mem_append_left _ ha); omega
      · exact hN.2.2 a ha a (List.mem_append_right _ hb) rfl
  · intro b hb
    obtain ⟨u, hu, hb2⟩ := List.mem_flatMap.1 hb
    rcases List.mem_or_eq_of_mem_set hu with h1 | h1
    · exact h.new b (List.mem_flatMap.2 ⟨u, h1, hb2⟩)
    · rw [h1] at hb2
      rcases hsub b hb2 with h1 | h1
      · exact h.new b (Sep.mem hi h1)
      · have := h.bel.size; omega
  · intro u hu
    obtain ⟨k, hk⟩ := List.mem_iff_getElem?.1 hu
    by_cases hik : i = k
    · subst hik
      rw [List.getElem?_set_self (List.getElem?_eq_some_iff.1 hi).1] at hk
      injection hk with hk
      subst hk
      exact ht
    · rw [List.getElem?_set_ne hik] at hk
      have hu' := h.hold u (List.mem_of_getElem? hk)
      exact u.keep hu' fun b hb => hc.block b (u.lt hu' b hb) (fun hm => h.apart hi hk hik b hm hb)
/-- things i and j have been changed into one -/
theorem Sep.upd2 (h : Sep w0 wr ts) (hij : i ≠ j) (hi : ts[i]? = some t) (hj : ts[j]? = some s) (hc : Chg (t.fp ++ s.fp) wr W) (ht : t'.holds W) (hnd : t'.fp.Nodup) (hsub : ∀ b, b ∈ t'.fp → b ∈ t.fp ∨ b ∈ s.fp ∨ wr.heap.size ≤ b) :
    Sep w0 W ((ts.set j tnil).set i t') := by
  -- first the two are one thing, at i
  have hji : (ts.set j tnil)[i]? = some t := by rw [List.getElem?_set_ne (Ne.symm hij)]; exact hi
  have h1 : Sep w0 wr ((ts.set j tnil).set i ⟨t.fp ++ s.fp, fun w => t.holds w ∧ s.holds w, fun hh k => ⟨t.keep hh.1 fun b hb => k b (List.mem_append_left _ hb), s.keep hh.2 fun b hb => k b (List.mem_append_right _ hb)⟩,
      fun hh b hb => (List.mem_append.1 hb).elim (t.lt hh.1 b) (s.lt hh.2 b)⟩) := by
    have h2 : Sep w0 wr (ts.set j tnil) := h.upd hj (Chg.refl _ _) trivial (by simp [tnil]) (fun b hb => by cases hb)
    have ha := h.apart hi hj hij
    have hns := h.ndat hj
    have hs := flat_split (·.fp) hji ⟨t.fp ++ s.fp, fun w => t.holds w ∧ s.holds w, fun hh k => ⟨t.keep hh.1 fun b hb => k b (List.mem_append_left _ hb), s.keep hh.2 fun b hb => k b (List.mem_append_right _ hb)⟩,
      fun hh b hb => (List.mem_append.1 hb).elim (t.lt hh.1 b) (s.lt hh.2 b)⟩
    have hN := h2.nd
    rw [hs.1, List.nodup_append, List.nodup_append] at hN
    have hap : ∀ b, b ∈ s.fp → b ∉ (ts.set j tnil).flatMap (·.fp) := fun b hb hm => by
      obtain ⟨u, hu, hb'⟩ := List.mem_flatMap.1 hm
      obtain ⟨k, hk⟩ := List.mem_iff_getElem?.1 hu
      by_cases hjk : j = k
      · subst hjk
        rw [List.getElem?_set_self (List.getElem?_eq_some_iff.1 hj).1] at hk
        injection hk with hk
        subst hk
        cases hb'
      · rw [List.getElem?_set_ne hjk] at hk
        exact h.apart hj hk hjk b hb hb'
    rw [hs.1] at hap
    refine ⟨h2.bel, ?_, ?_, ?_⟩
    · rw [hs.2, List.nodup_append, List.nodup_append]
      refine ⟨hN.1, ⟨?_, hN.2.1.2.1, fun a ha' b hb e => ?_⟩, fun a ha' b hb e => ?_⟩
      · show (t.fp ++ s.fp).Nodup
        rw [List.nodup_append]
        exact ⟨hN.2.1.1, hns, fun a h3 b h4 e => by subst e; exact ha a h3 h4⟩
      · subst e
        rcases List.mem_append.1 ha' with h3 | h3
        · exact hN.2.1.2.2 a h3 a hb rfl
        · exact hap a h3 (List.mem_append_right _ (List.mem_append_right _ hb))
      · subst e
        rcases List.mem_append.1 hb with hb | hb
        · rcases List.mem_append.1 hb with h3 | h3
          · exact hN.2.2 a ha' a (List.mem_append_left _ h3) rfl
          · exact hap a h3 (List.mem_append_left _ ha')
        · exact hN.2.2 a ha' a (List.mem_append_right _ hb) rfl
    · intro b hb
      rw [hs.2] at hb
      rcases List.mem_append.1 hb with hb | hb
      · exact h2.new b (by rw [hs.1]; exact List.mem_append_left _ hb)
      · rcases List.mem_append.1 hb with hb | hb
        · rcases List.mem_append.1 hb with h3 | h3
          · exact h.new b (Sep.mem hi h3)
          · exact h.new b (Sep.mem hj h3)
        · exact h2.new b (by rw [hs.1]; exact List.mem_append_right _ (List.mem_append_right _ hb))
    · intro u hu
      rcases List.mem_or_eq_of_mem_set hu with h3 | rfl
      · exact h2.hold u h3
      · exact ⟨h.at_ i hi, h.at_ j hj⟩
  have hlt : i < (ts.set j tnil).length := (List.getElem?_eq_some_iff.1 hji).1
  have h3 := h1.upd (i := i) (List.getElem?_set_self hlt) hc ht hnd (fun b hb => by
    rcases hsub b hb with h | h | h
    · exact .inl (List.mem_append_left _ h)
    · exact .inl (List.mem_append_right _ h)
    · exact .inr h)
  rwa [List.set_set] at h3
end
section
variable {w0 wr W2 : World} {ts : List Thing} {s : Thing} {i j : Nat}
theorem Sep.setBlk {g k : Nat} {t : TypeId} {cs : List Value} (h : Sep w0 wr ts) (i : Nat) (hi : ts[i]? = some (tblk g t cs)) (u : Value) : Sep w0 (wr.setCell ⟨g, k, none⟩ u) (ts.set i (tblk g t (cs.set k u))) :=
  h.upd hi ((Chg.refl _ _).setCell (by simp [tblk]) u) ((show Blk wr g t cs from h.at_ i hi).set_ k u) (by simp [tblk]) (fun b hb => .inl hb)
variable {α : Type} {E : Rep α} {e : TypeId} {xs : List α} {v : Value} {fp : List Nat} {x : α} {cx : List Value}
theorem Sep.putSl {g n c k m : Nat} {x x' : α} {u : Value} (h : Sep w0 wr ts) (i : Nat) (hi : ts[i]? = some (tsl E e xs (.slice (some ⟨g, 0, none⟩) n c) fp)) (hk : xs[k]? = some x) (hm : m < E.size) (hx : ∀ cs fx, E.own wr x cs fx → E.own wr x' (cs.set m u) fx) :
    Sep w0 (wr.setCell ⟨g, k * E.size + m, none⟩ u) (ts.set i (tsl E e (xs.set k x') (.slice (some ⟨g, 0, none⟩) n c) fp)) := by
  have h1 : SlOwn E e wr xs (.slice (some ⟨g, 0, none⟩) n c) fp := h.at_ i hi
  have hnd : fp.Nodup := h.ndat hi
  exact h.upd hi ((Chg.refl _ _).setCell h1.mem_block u) (h1.store hnd hk hm hx) hnd (fun b hb => .inl hb)
theorem row_in {w : World} (h : SlOwn E e w xs v fp) {k : Nat} (hk : v.ownBlock = some k) : k ∈ fp := by
  obtain ⟨es, _, _, rfl⟩ := h
  exact List.mem_append_left _ (by rw [hk]; simp)
theorem Sep.put1 {g n c k : Nat} {x x' : α} {u : Value} (h : Sep w0 wr ts) (i : Nat) (hi : ts[i]? = some (tsl E e xs (.slice (some ⟨g, 0, none⟩) n c) fp)) (hE : E.size = 1) (hk : xs[k]? = some x) (hx : ∀ cs fx, E.own wr x cs fx → E.own wr x' [u] fx) :
    Sep w0 (wr.setCell ⟨g, k, none⟩ u) (ts.set i (tsl E e (xs.set k x') (.slice (some ⟨g, 0, none⟩) n c) fp)) := by
  have h1 := h.putSl (m := 0) (u := u) (x' := x') i hi hk (by omega) (fun cs fx ho => by
    have hl := E.olen ho
    rw [hE] at hl
    obtain ⟨a, rfl⟩ := List.length_eq_one_iff.1 hl
    exact hx _ _ ho)
  rwa [show k * E.size + 0 = k by rw [hE]; omega] at h1
theorem Sep.tail {t : Thing} (h : Sep w0 wr (t :: ts)) : Sep w0 wr ts := ⟨h.bel, by have := h.nd; rw [List.flatMap_cons, List.nodup_append] at this; exact this.2.1, fun b hb => h.new b (by rw [List.flatMap_cons]; exact List.mem_append_right _ hb), fun t ht => h.hold t (List.mem_cons_of_mem _ ht)⟩
theorem sl_addr {w : World} {A : Option Addr} {n c : Nat} (h : SlOwn E e w xs (.slice A n c) fp) (h0 : 0 < xs.length) : ∃ g, A = some ⟨g, 0, none⟩ ∧ g ∈ fp ∧ n = xs.length := by
  obtain ⟨A', n', c', hv, hn, _⟩ := h.form
  injection hv with h1 h2 h3
  have hm := fun g (hg : (Value.slice A n c).ownBlock = some g) => row_in h hg
  obtain ⟨es, he, ho, rfl⟩ := h
  obtain ⟨g, cap, hf, _⟩ := ho.form h0
  injection hf with hA
  subst hA
  exact ⟨g, rfl, hm g rfl, by omega⟩
theorem Sep.own0 (h : Sep w0 wr ts) (i : Nat) (hi : ts[i]? = some (tsl E e xs v fp)) : SlOwn E e wr xs v fp ∧ fp.Nodup ∧ (∀ b, b ∈ fp → w0.heap.size ≤ b) ∧ Below w0.heap.size w0 wr :=
  ⟨h.at_ i hi, h.ndat hi, fun b hb => h.new b (Sep.mem hi hb), h.bel⟩
/-- append, the new element a thing of the list -/
theorem Sep.push (h : Sep w0 wr ts) (i j : Nat) (hij : i ≠ j) (hi : ts[i]? = some (tsl E e xs v fp)) (hj : ts[j]? = some s) (hb : Below wr.heap.size wr W2) (hx : ∀ W, s.holds W → E.own W x cx s.fp) :
    ∃ l, W2.ownsRow 0 e E.size v xs.length l ∧ ∀ gg cap w1, w1.ownsRow 0 e E.size (.slice (some ⟨gg, 0, none⟩) (xs.length + 1) cap) (xs.length + 1) (l ++ cx) → W2.grownBy w1 v.ownBlock → (v.ownBlock = some gg ∨ gg = W2.heap.size) →
      ∃ fp', Sep w0 w1 ((ts.set j tnil).set i (tsl E e (xs ++ [x]) (.slice (some ⟨gg, 0, none⟩) (xs.length + 1) cap) fp')) := by
  have h2 := h.step hb
  have ho : SlOwn E e W2 xs v fp := h2.at_ i hi
  have hs := hx _ (h2.at_ j hj)
  obtain ⟨l, k1, k2⟩ := ho.push hs (h2.ndat hi) (h2.ndat hj) (fun b hb hm => h2.apart hi hj hij b hm hb)
  refine ⟨l, k1, fun gg cap w1 g1 g2 g3 => ?_⟩
  obtain ⟨fp', m1, m2, m3⟩ := k2 _ w1 g1 g2 (g3.elim (fun h => .inl h.symm) (fun h => .inr (by rw [h]; rfl)))
  refine ⟨fp', h2.upd2 hij hi hj ?_ m1 m2 (fun b hb => ?_)⟩
  · exact ⟨g2.os, g2.tape, g2.output, g2.size, fun k hk hn => g2.block k hk (fun hh => hn (List.mem_append_left _ (row_in ho hh.symm)))⟩
  · rcases m3 b hb with h | h | h
    · exact .inl h
    · exact .inr (.inl h)
    · exact .inr (.inr (by omega))
/-- append, the new element leads nowhere -/
theorem Sep.push0 (h : Sep w0 wr ts) (i : Nat) (hi : ts[i]? = some (tsl E e xs v fp)) (hb : Below wr.heap.size wr W2) (hx : E.own W2 x cx []) :
    ∃ l, W2.ownsRow 0 e E.size v xs.length l ∧ ∀ gg cap w1, w1.ownsRow 0 e E.size (.slice (some ⟨gg, 0, none⟩) (xs.length + 1) cap) (xs.length + 1) (l ++ cx) → W2.grownBy w1 v.ownBlock → (v.ownBlock = some gg ∨ gg = W2.heap.size) →
      ∃ fp', Sep w0 w1 (ts.set i (tsl E e (xs ++ [x]) (.slice (some ⟨gg, 0, none⟩) (xs.length + 1) cap) fp')) := by
  have h2 := h.step hb
  have ho : SlOwn E e W2 xs v fp := h2.at_ i hi
  obtain ⟨l, k1, k2⟩ := ho.push hx (h2.ndat hi) List.nodup_nil (fun b hb => by cases hb)
  refine ⟨l, k1, fun gg cap w1 g1 g2 g3 => ?_⟩
  obtain ⟨fp', m1, m2, m3⟩ := k2 _ w1 g1 g2 (g3.elim (fun h => .inl h.symm) (fun h => .inr (by rw [h]; rfl)))
  refine ⟨fp', h2.upd hi ?_ m1 m2 (fun b hb => ?_)⟩
  · exact ⟨g2.os, g2.tape, g2.output, g2.size, fun k hk hn => g2.block k hk (fun hh => hn (row_in ho hh.symm))⟩
  · rcases m3 b hb with h | h | h
    · exact .inl h
    · cases h
    · exact .inr (by omega)
/-- the inside of element k is changed -/
theorem Sep.putIn {g n c k : Nat} (h : Sep w0 wr ts) (i : Nat) (hi : ts[i]? = some (tsl E e xs (.slice (some ⟨g, 0, none⟩) n c) fp)) (hk : xs[k]? = some x) :
    ∃ cs fx, E.own wr x cs fx ∧ fx.Nodup ∧ (∀ b, b ∈ fx → b ∈ fp ∧ b ≠ g) ∧ (∀ j u, cs[j]? = some u → wr.cell? ⟨g, k * E.size + j, none⟩ = some u) ∧
      ∀ W x' fx', Chg fx wr W → E.own W x' cs fx' → fx'.Nodup → (∀ b, b ∈ fx' → b ∈ fx) → ∃ fp', Sep w0 W (ts.set i (tsl E e (xs.set k x') (.slice (some ⟨g, 0, none⟩) n c) fp')) := by
  have h1 : SlOwn E e wr xs (.slice (some ⟨g, 0, none⟩) n c) fp := h.at_ i hi
  obtain ⟨cs, fx, k1, k2, k3, k4, k5⟩ := h1.inner (h.ndat hi) hk
  refine ⟨cs, fx, k1, k2, k3, k4, fun W x' fx' m1 m2 m3 m4 => ?_⟩
  obtain ⟨fp', p1, p2, p3⟩ := k5 W x' fx' m1 m2 m3 m4
  exact ⟨fp', h.upd hi (m1.more fun b hb => (k3 b hb).1) p1 p2 (fun b hb => .inl (p3 b hb))⟩
theorem SlOwn.store1 {g n c k : Nat} {w : World} {x' : α} {u : Value} (h : SlOwn E e w xs (.slice (some ⟨g, 0, none⟩) n c) fp) (hnd : fp.Nodup) (hE : E.size = 1) (hk : xs[k]? = some x) (hx : ∀ cs fx, E.own w x cs fx → E.own w x' [u] fx) :
    SlOwn E e (w.setCell ⟨g, k, none⟩ u) (xs.set k x') (.slice (some ⟨g, 0, none⟩) n c) fp := by
  have h1 := h.store (j := 0) (u := u) (x' := x') hnd hk (by omega) (fun cs fx ho => by
    have hl := E.olen ho
    rw [hE] at hl
    obtain ⟨a, rfl⟩ := List.length_eq_one_iff.1 hl
    exact hx _ _ ho)
  rwa [show k * E.size + 0 = k by rw [hE]; omega] at h1
/-- what block i holds -/
theorem Sep.cell {g k : Nat} {t : TypeId} {cs : List Value} {u : Value} (h : Sep w0 wr ts) (i : Nat) (hi : ts[i]? = some (tblk g t cs)) (hu : cs[k]? = some u) : wr.cell? ⟨g, k, none⟩ = some u := (show Blk wr g t cs from h.at_ i hi).cell hu
theorem Sep.frz {g k : Nat} {t : TypeId} {cs : List Value} (h : Sep w0 wr ts) (i : Nat) (hi : ts[i]? = some (tblk g t cs)) : wr.frozen? ⟨g, k, none⟩ = false := (show Blk wr g t cs from h.at_ i hi).frozen k
theorem Sep.blk {g : Nat} {t : TypeId} {cs : List Value} (h : Sep w0 wr ts) (i : Nat) (hi : ts[i]? = some (tblk g t cs)) : g < wr.heap.size ∧ w0.heap.size ≤ g := ⟨(show Blk wr g t cs from h.at_ i hi).lt, h.new g (Sep.mem hi (by simp [tblk]))⟩
theorem Sep.sl (h : Sep w0 wr ts) (i : Nat) (hi : ts[i]? = some (tsl E e xs v fp)) : SlOwn E e wr xs v fp := h.at_ i hi
theorem Sep.slnew (h : Sep w0 wr ts) (i : Nat) (hi : ts[i]? = some (tsl E e xs v fp)) : ∀ b, b ∈ fp → w0.heap.size ≤ b ∧ b < wr.heap.size := fun b hb => ⟨h.new b (Sep.mem hi hb), (show SlOwn E e wr xs v fp from h.at_ i hi).olt b hb⟩
theorem Sep.rowne {g : Nat} {t : TypeId} {cs : List Value} (h : Sep w0 wr ts) (i j : Nat) (hi : ts[i]? = some (tsl E e xs v fp)) (hj : ts[j]? = some (tblk g t cs)) (hij : i ≠ j) : some g ≠ v.ownBlock := fun hh => h.apart hi hj hij g (row_in (h.sl i hi) hh.symm) (by simp [tblk])
end
end Mm
end Go.Proofs.Ytnppcdiicnofpab

/-
  The same as 'Sep', where the call was handed things that it may change: F, the blocks that came in with them. No program in sight. No conditions.
-/
namespace Go.Proofs.Ytnppcdiicnofpab
open Go.RowKit
namespace Mm
structure SepF (F : List Nat) (w0 wr : World) (ts : List Thing) : Prop where
  chg : Chg F w0 wr
  nd : (ts.flatMap (·.fp)).Nodup
  new : ∀ b, b ∈ ts.flatMap (·.fp) → b ∈ F ∨ w0.heap.size ≤ b
  hold : ∀ t, t ∈ ts → t.holds wr
/-- a struct behind a pointer -/
def tptr {α : Type} (R : Rep α) (t : TypeId) (g : Nat) (x : α) (fp : List Nat) : Thing :=
  ⟨g :: fp, fun w => ∃ cs, Blk w g t cs ∧ R.own w x cs fp, fun ⟨cs, h1, h2⟩ k => ⟨cs, h1.keep (k g (by simp)), R.okeep h2 fun b hb => k b (List.mem_cons_of_mem _ hb)⟩,
    fun ⟨cs, h1, h2⟩ b hb => by
      rcases List.mem_cons.1 hb with rfl | hb
      · exact h1.lt
      · exact R.olt h2 b hb⟩
/-- what a call leaves of a thing that it was handed -/
def Left (F : List Nat) (w w' : World) (t : Thing) : Prop := Chg F w w' ∧ t.fp.Nodup ∧ (∀ b, b ∈ t.fp → b ∈ F ∨ w.heap.size ≤ b) ∧ t.holds w'
section
variable {F : List Nat} {w0 wr W : World} {ts : List Thing} {t t' s : Thing} {i j : Nat}
theorem SepF.one (t : Thing) (w : World) (h : t.holds w) (hn : t.fp.Nodup) : SepF t.fp w w [t] := ⟨Chg.refl _ _, by simpa using hn, fun b hb => .inl (by simpa using hb), fun u hu => by rw [List.mem_singleton.1 hu]; exact h⟩
theorem SepF.conv {us : List Thing} (h : SepF F w0 wr ts) (hp : (us.flatMap (·.fp)).Perm (ts.flatMap (·.fp))) (hh : ∀ u, u ∈ us → u.holds wr) : SepF F w0 wr us :=
  ⟨h.chg, hp.nodup_iff.2 h.nd, fun b hb => h.new b (hp.mem_iff.1 hb), hh⟩
theorem SepF.chgon (h : SepF F w0 wr ts) (hi : ts[i]? = some t) (hc : Chg t.fp wr W) : Chg F w0 W := by
  refine ⟨hc.os.trans h.chg.os, hc.tape.trans h.chg.tape, hc.output.trans h.chg.output, Nat.le_trans h.chg.size hc.size, fun k hk hn => ?_⟩
  have hkw : k < wr.heap.size := Nat.lt_of_lt_of_le hk h.chg.size
  refine (hc.block k hkw fun hm => ?_).trans (h.chg.block k hk hn)
  rcases h.new k (List.mem_flatMap.2 ⟨t, List.mem_of_getElem? hi, hm⟩) with h1 | h1
  · exact hn h1
  · omega
theorem SepF.left (h : SepF F w0 wr [t]) : Left F w0 wr t := ⟨h.chg, by simpa using h.nd, fun b hb => h.new b (by simpa using hb), h.hold t (by simp)⟩
theorem SepF.at_ (h : SepF F w0 wr ts) (i : Nat) (hi : ts[i]? = some t) : t.holds wr := h.hold t (List.mem_of_getElem? hi)
theorem SepF.mem (hi : ts[i]? = some t) {b : Nat} (hb : b ∈ t.fp) : b ∈ ts.flatMap (·.fp) := List.mem_flatMap.2 ⟨t, List.mem_of_getElem? hi, hb⟩
theorem SepF.lt (h : SepF F w0 wr ts) : ∀ b, b ∈ ts.flatMap (·.fp) → b < wr.heap.size := fun b hb => by
  obtain ⟨t, ht, hb⟩ := List.mem_flatMap.1 hb
  exact t.lt (h.hold t ht) b hb
theorem SepF.ndat (h : SepF F w0 wr ts) (hi : ts[i]? = some t) : t.fp.Nodup := by
  have := h.nd
  rw [(flat_split (·.fp) hi t).1] at this
  exact ((List.nodup_append.1 this).2.1 |> List.nodup_append.1).1
theorem SepF.apart (h : SepF F w0 wr ts) (hi : ts[i]? = some t) (hj : ts[j]? = some s) (hij : i ≠ j) : ∀ b, b ∈ t.fp → b ∉ s.fp := by
  have hnd := h.nd
  rw [(flat_split (·.fp) hi t).1, List.nodup_append, List.nodup_append] at hnd
  intro b hb hs
  rcases Nat.lt_or_gt_of_ne hij with h1 | h1
  · refine hnd.2.1.2.2 b hb b (List.mem_flatMap.2 ⟨s, List.mem_of_getElem? (i := j - (i + 1)) ?_, hs⟩) rfl
    rw [List.getElem?_drop, show i + 1 + (j - (i + 1)) = j by omega]; exact hj
  · refine hnd.2.2 b (List.mem_flatMap.2 ⟨s, List.mem_of_getElem? (i := j) ?_, hs⟩) b (List.mem_append_left _ hb) rfl
    rw [List.getElem?_take, if_pos h1]; exact hj
theorem SepF.step (h : SepF F w0 wr ts) (hb : Below wr.heap.size wr W) : SepF F w0 W ts :=
  ⟨h.chg.trans (Chg.of_below hb), h.nd, h.new, fun t ht => t.keep (h.hold t ht) fun b hb' => hb.block b (h.lt b (List.mem_flatMap.2 ⟨t, ht, hb'⟩))⟩
theorem SepF.add (h : SepF F w0 wr ts) (hb : Below wr.heap.size wr W) (ht : t.holds W) (hnd : t.fp.Nodup) (hnew : ∀ b, b ∈ t.fp → wr.heap.size ≤ b) : SepF F w0 W (t :: ts) := by
  have h1 := h.step hb
  refine ⟨h1.chg, ?_, fun b hb' => ?_, fun u hu => ?_⟩
  · rw [List.flatMap_cons, List.nodup_append]
    exact ⟨hnd, h.nd, fun a ha b hb' e => by subst e; have := hnew a ha; have := h.lt a hb'; omega⟩
  · rw [List.flatMap_cons] at hb'
    rcases List.mem_append.1 hb' with hb' | hb'
    · have := hnew b hb'; have := h.chg.size; exact .inr (by omega)
    · exact h.new b hb'
  · rcases List.mem_cons.1 hu with rfl | hu
    · exact ht
    · exact h1.hold u hu
theorem SepF.alloc (h : SepF F w0 wr ts) (t : TypeId) (cs : List Value) : SepF F w0 (wr.alloc (.cells cs.toArray t)) (tblk wr.heap.size t cs :: ts) :=
  h.add (below_new (Below.refl _ _) _) (Blk.new wr t cs) (by simp [tblk]) (by simp [tblk])
theorem SepF.alloc' {g : Nat} (h : SepF F w0 wr ts) (hg : wr.heap.size = g) (t : TypeId) (cs : List Value) : SepF F w0 (wr.alloc (.cells cs.toArray t)) (tblk g t cs :: ts) := by subst hg; exact h.alloc t cs
/-- thing number i has been changed, and nothing else that was there -/
theorem SepF.upd (h : SepF F w0 wr ts) (hi : ts[i]? = some t) (hc : Chg t.fp wr W) (ht : t'.holds W) (hnd : t'.fp.Nodup) (hsub : ∀ b, b ∈ t'.fp → b ∈ t.fp ∨ wr.heap.size ≤ b) : SepF F w0 W (ts.set i t') := by
  have hs := flat_split (·.fp) hi t'
  have hN := h.nd
  rw [hs.1, List.nodup_append, List.nodup_append] at hN
  have hL := h.lt
  rw [hs.1] at hL
  refine ⟨h.chgon hi hc, ?_, ?_, ?_⟩
  · rw [hs.2, List.nodup_append, List.nodup_append]
    refine ⟨hN.1, ⟨hnd, hN.2.1.2.1, fun a ha b hb e => ?_⟩, fun a ha b hb e => ?_⟩
    · subst e
      rcases hsub a ha with h1 | h1
      · exact hN.2.1.2.2 a h1 a hb rfl
      · have := hL a (List.mem_append_right _ (List.mem_append_right _ hb)); omega
    · subst e
      rcases List.mem_append.1 hb with hb | hb
      · rcases hsub a hb with h1 | h1
        · exact hN.2.2 a ha a (List.mem_append_left _ h1) rfl
        · have := hL a (List.mem_append_left _ ha); omega
      · exact hN.2.2 a ha a (List.mem_append_right _ hb) rfl
  · intro b hb
    obtain ⟨u, hu, hb2⟩ := List.mem_flatMap.1 hb
    rcases List.mem_or_eq_of_mem_set hu with h1 | h1
    · exact h.new b (List.mem_flatMap.2 ⟨u, h1, hb2⟩)
    · rw [h1] at hb2
      rcases hsub b hb2 with h1 | h1
      · exact h.new b (SepF.mem hi h1)
      · have := h.chg.size; exact .inr (by omega)
  · intro u hu
    obtain ⟨k, hk⟩ := List.mem_iff_getElem?.1 hu
    by_cases hik : i = k
    · subst hik
      rw [List.getElem?_set_self (List.getElem?_eq_some_iff.1 hi).1] at hk
      injection hk with hk
      subst hk
      exact ht
    · rw [List.getElem?_set_ne hik] at hk
      have hu' := h.hold u (List.mem_of_getElem? hk)
      exact u.keep hu' fun b hb => hc.block b (u.lt hu' b hb) (fun hm => h.apart hi hk hik b hm hb)
/-- behind a call that was handed thing i -/
theorem SepF.call (h : SepF F w0 wr ts) (i : Nat) (hi : ts[i]? = some t) (hl : Left t.fp wr W t') : SepF F w0 W (ts.set i t') := h.upd hi hl.1 hl.2.2.2 hl.2.1 hl.2.2.1
/-- things i and j have been changed into one -/
theorem SepF.upd2 (h : SepF F w0 wr ts) (hij : i ≠ j) (hi : ts[i]? = some t) (hj : ts[j]? = some s) (hc : Chg (t.fp ++ s.fp) wr W) (ht : t'.holds W) (hnd : t'.fp.Nodup) (hsub : ∀ b, b ∈ t'.fp → b ∈ t.fp ∨ b ∈ s.fp ∨ wr.heap.size ≤ b) :
    SepF F w0 W ((ts.set j tnil).set i t') := by
  -- first the two are one thing, at i
  have hji : (ts.set j tnil)[i]? = some t := by rw [List.getElem?_set_ne (Ne.symm hij)]; exact hi
  have h1 : SepF F w0 wr ((ts.set j tnil).set i ⟨t.fp ++ s.fp, fun w => t.holds w ∧ s.holds w, fun hh k => ⟨t.keep hh.1 fun b hb => k b (List.mem_append_left _ hb), s.keep hh.2 fun b hb => k b (List.mem_append_right _ hb)⟩,
      fun hh b hb => (List.mem_append.1 hb).elim (t.lt hh.1 b) (s.lt hh.2 b)⟩) := by
    have h2 : SepF F w0 wr (ts.set j tnil) := h.upd hj (Chg.refl _ _) trivial (by simp [tnil]) (fun b hb => by cases hb)
    have ha := h.apart hi hj hij
    have hns := h.ndat hj
    have hs := flat_split (·.fp) hji ⟨t.fp ++ s.fp, fun w => t.holds w ∧ s.holds w, fun hh k => ⟨t.keep hh.1 fun b hb => k b (List.mem_append_left _ hb), s.keep hh.2 fun b hb => k b (List.mem_append_right _ hb)⟩,
      fun hh b hb => (List.mem_append.1 hb).elim (t.lt hh.1 b) (s.lt hh.2 b)⟩
    have hN := h2.nd
    rw [hs.1, List.nodup_append, List.nodup_append] at hN
    have hap : ∀ b, b ∈ s.fp → b ∉ (ts.set j tnil).flatMap (·.fp) := fun b hb hm => by
      obtain ⟨u, hu, hb'⟩ := List.mem_flatMap.1 hm
      obtain ⟨k, hk⟩ := List.mem_iff_getElem?.1 hu
      by_cases hjk : j = k
      · subst hjk
        rw [List.getElem?_set_self (List.getElem?_eq_some_iff.1 hj).1] at hk
        injection hk with hk
        subst hk
        cases hb'
      · rw [List.getElem?_set_ne hjk] at hk
        exact h.apart hj hk hjk b hb hb'
    rw [hs.1] at hap
    refine ⟨h2.chg, ?_, ?_, ?_⟩
    · rw [hs.2, List.nodup_append, List.nodup_append]
      refine ⟨hN.1, ⟨?_, hN.2.1.2.1, fun a ha' b hb e => ?_⟩, fun a ha' b hb e => ?_⟩
      · show (t.fp ++ s.fp).Nodup
        rw [List.nodup_append]
        exact ⟨hN.2.1.1, hns, fun a h3 b h4 e => by subst e; exact ha a h3 h4⟩
      · subst e
        rcases List.mem_append.1 ha' with h3 | h3
        · exact hN.2.1.2.2 a h3 a hb rfl
        · exact hap a h3 (List.mem_append_right _ (List.mem_append_right _ hb))
      · subst e
        rcases List.mem_append.1 hb with hb | hb
        · rcases List.mem_append.1 hb with h3 | h3
          · exact hN.2.2 a ha' a (List.mem_append_left _ h3) rfl
          · exact hap a h3 (List.mem_append_left _ ha')
        · exact hN.2.2 a ha' a (List.mem_append_right _ hb) rfl
    · intro b hb
      rw [hs.2] at hb
      rcases List.mem_append.1 hb with hb | hb
      · exact h2.new b (by rw [hs.1]; exact List.mem_append_left _ hb)
      · rcases List.mem_append.1 hb with hb | hb
        · rcases List.mem_append.1 hb with h3 | h3
          · exact h.new b (SepF.mem hi h3)
          · exact h.new b (SepF.mem hj h3)
        · exact h2.new b (by rw [hs.1]; exact List.mem_append_right _ (List.mem_append_right _ hb))
    · intro u hu
      rcases List.mem_or_eq_of_mem_set hu with h3 | rfl
      · exact h2.hold u h3
      · exact ⟨h.at_ i hi, h.at_ j hj⟩
  have hlt : i < (ts.set j tnil).length := (List.getElem?_eq_some_iff.1 hji).1
  have h3 := h1.upd (i := i) (List.getElem?_set_self hlt) hc ht hnd (fun b hb => by
    rcases hsub b hb with h | h | h
    · exact .inl (List.mem_append_left _ h)
    · exact .inl (List.mem_append_right _ h)
    · exact .inr h)
  rwa [List.set_set] at h3
end
section
variable {F : List Nat} {w0 wr W2 : World} {ts : List Thing} {s : Thing} {i j : Nat}
theorem SepF.setBlk {g k : Nat} {t : TypeId} {cs : List Value} (h : SepF F w0 wr ts) (i : Nat) (hi : ts[i]? = some (tblk g t cs)) (u : Value) : SepF F w0 (wr.setCell ⟨g, k, none⟩ u) (ts.set i (tblk g t (cs.set k u))) :=
  h.upd hi ((Chg.refl _ _).setCell (by simp [tblk]) u) ((show Blk wr g t cs from h.at_ i hi).set_ k u) (by simp [tblk]) (fun b hb => .inl hb)
variable {α : Type} {E : Rep α} {e : TypeId} {xs : List α} {v : Value} {fp : List Nat} {x : α} {cx : List Value}
theorem SepF.putSl {g n c k m : Nat} {x x' : α} {u : Value} (h : SepF F w0 wr ts) (i : Nat) (hi : ts[i]? = some (tsl E e xs (.slice (some ⟨g, 0, none⟩) n c) fp)) (hk : xs[k]? = some x) (hm : m < E.size) (hx : ∀ cs fx, E.own wr x cs fx → E.own wr x' (cs.set m u) fx) :
    SepF F w0 (wr.setCell ⟨g, k * E.size + m, none⟩ u) (ts.set i (tsl E e (xs.set k x') (.slice (some ⟨g, 0, none⟩) n c) fp)) := by
  have h1 : SlOwn E e wr xs (.slice (some ⟨g, 0, none⟩) n c) fp := h.at_ i hi
  have hnd : fp.Nodup := h.ndat hi
  exact h.upd hi ((Chg.refl _ _).setCell h1.mem_block u) (h1.store hnd hk hm hx) hnd (fun b hb => .inl hb)
theorem SepF.put1 {g n c k : Nat} {x x' : α} {u : Value} (h : SepF F w0 wr ts) (i : Nat) (hi : ts[i]? = some (tsl E e xs (.slice (some ⟨g, 0, none⟩) n c) fp)) (hE : E.size = 1) (hk : xs[k]? = some x) (hx : ∀ cs fx, E.own wr x cs fx → E.own wr x' [u] fx) :
    SepF F w0 (wr.setCell ⟨g, k, none⟩ u) (ts.set i (tsl E e (xs.set k x') (.slice (some ⟨g, 0, none⟩) n c) fp)) := by
  have h1 := h.putSl (m := 0) (u := u) (x' := x') i hi hk (by omega) (fun cs fx ho => by
    have hl := E.olen ho
    rw [hE] at hl
    obtain ⟨a, rfl⟩ := List.length_eq_one_iff.1 hl
    exact hx _ _ ho)
  rwa [show k * E.size + 0 = k by rw [hE]; omega] at h1
theorem SepF.tail {t : Thing} (h : SepF F w0 wr (t :: ts)) : SepF F w0 wr ts := ⟨h.chg, by have := h.nd; rw [List.flatMap_cons, List.nodup_append] at this; exact this.2.1, fun b hb => h.new b (by rw [List.flatMap_cons]; exact List.mem_append_right _ hb), fun t ht => h.hold t (List.mem_cons_of_mem _ ht)⟩
theorem SepF.own0 (h : SepF F w0 wr ts) (i : Nat) (hi : ts[i]? = some (tsl E e xs v fp)) : SlOwn E e wr xs v fp ∧ fp.Nodup ∧ (∀ b, b ∈ fp → b ∈ F ∨ w0.heap.size ≤ b) ∧ Chg F w0 wr :=
  ⟨h.at_ i hi, h.ndat hi, fun b hb => h.new b (SepF.mem hi hb), h.chg⟩
/-- append, the new element a thing of the list -/
theorem SepF.push (h : SepF F w0 wr ts) (i j : Nat) (hij : i ≠ j) (hi : ts[i]? = some (tsl E e xs v fp)) (hj : ts[j]? = some s) (hb : Below wr.heap.size wr W2) (hx : ∀ W, s.holds W → E.own W x cx s.fp) :
    ∃ l, W2.ownsRow 0 e E.size v xs.length l ∧ ∀ gg cap w1, w1.ownsRow 0 e E.size (.slice (some ⟨gg, 0, none⟩) (xs.length + 1) cap) (xs.length + 1) (l ++ cx) → W2.grownBy w1 v.ownBlock → (v.ownBlock = some gg ∨ gg = W2.heap.size) →
      ∃ fp', SepF F w0 w1 ((ts.set j tnil).set i (tsl E e (xs ++ [x]) (.slice (some ⟨gg, 0, none⟩) (xs.length + 1) cap) fp')) := by
  have h2 := h.step hb
  have ho : SlOwn E e W2 xs v fp := h2.at_ i hi
  have hs := hx _ (h2.at_ j hj)
  obtain ⟨l, k1, k2⟩ := ho.push hs (h2.ndat hi) (h2.ndat hj) (fun b hb hm => h2.apart hi hj hij b hm hb)
  refine ⟨l, k1, fun gg cap w1 g1 g2 g3 => ?_⟩
  obtain ⟨fp', m1, m2, m3⟩ := k2 _ w1 g1 g2 (g3.elim (fun h => .inl h.symm) (fun h => .inr (by rw [h]; rfl)))
  refine ⟨fp', h2.upd2 hij hi hj ?_ m1 m2 (fun b hb => ?_)⟩
  · exact ⟨g2.os, g2.tape, g2.output, g2.size, fun k hk hn => g2.block k hk (fun hh => hn (List.mem_append_left _ (row_in ho hh.symm)))⟩
  · rcases m3 b hb with h | h | h
    · exact .inl h
    · exact .inr (.inl h)
    · exact .inr (.inr (by omega))
/-- append, the new element leads nowhere -/
theorem SepF.push0 (h : SepF F w0 wr ts) (i : Nat) (hi : ts[i]? = some (tsl E e xs v fp)) (hb : Below wr.heap.size wr W2) (hx : E.own W2 x cx []) :
    ∃ l, W2.ownsRow 0 e E.size v xs.length l ∧ ∀ gg cap w1, w1.ownsRow 0 e E.size (.slice (some ⟨gg, 0, none⟩) (xs.length + 1) cap) (xs.length + 1) (l ++ cx) → W2.grownBy w1 v.ownBlock → (v.ownBlock = some gg ∨ gg = W2.heap.size) →
      ∃ fp', SepF F w0 w1 (ts.set i (tsl E e (xs ++ [x]) (.slice (some ⟨gg, 0, none⟩) (xs.length + 1) cap) fp')) := by
  have h2 := h.step hb
  have ho : SlOwn E e W2 xs v fp := h2.at_ i hi
  obtain ⟨l, k1, k2⟩ := ho.push hx (h2.ndat hi) List.nodup_nil (fun b hb => by cases hb)
  refine ⟨l, k1, fun gg cap w1 g1 g2 g3 => ?_⟩
  obtain ⟨fp', m1, m2, m3⟩ := k2 _ w1 g1 g2 (g3.elim (fun h => .inl h.symm) (fun h => .inr (by rw [h]; rfl)))
  refine ⟨fp', h2.upd hi ?_ m1 m2 (fun b hb => ?_)⟩
  · exact ⟨g2.os, g2.tape, g2.output, g2.size, fun k hk hn => g2.block k hk (fun hh => hn (row_in ho hh.symm))⟩
  · rcases m3 b hb with h | h | h
    · exact .inl h
    · cases h
    · exact .inr (by omega)
/-- the inside of element k is changed -/
theorem SepF.putIn {g n c k : Nat} (h : SepF F w0 wr ts) (i : Nat) (hi : ts[i]? = some (tsl E e xs (.slice (some ⟨g, 0, none⟩) n c) fp)) (hk : xs[k]? = some x) :
    ∃ cs fx, E.own wr x cs fx ∧ fx.Nodup ∧ (∀ b, b ∈ fx → b ∈ fp ∧ b ≠ g) ∧ (∀ j u, cs[j]? = some u → wr.cell? ⟨g, k * E.size + j, none⟩ = some u) ∧
      ∀ W x' fx', Chg fx wr W → E.own W x' cs fx' → fx'.Nodup → (∀ b, b ∈ fx' → b ∈ fx) → ∃ fp', SepF F w0 W (ts.set i (tsl E e (xs.set k x') (.slice (some ⟨g, 0, none⟩) n c) fp')) := by
  have h1 : SlOwn E e wr xs (.slice (some ⟨g, 0, none⟩) n c) fp := h.at_ i hi
  obtain ⟨cs, fx, k1, k2, k3, k4, k5⟩ := h1.inner (h.ndat hi) hk
  refine ⟨cs, fx, k1, k2, k3, k4, fun W x' fx' m1 m2 m3 m4 => ?_⟩
  obtain ⟨fp', p1, p2, p3⟩ := k5 W x' fx' m1 m2 m3 m4
  exact ⟨fp', h.upd hi (m1.more fun b hb => (k3 b hb).1) p1 p2 (fun b hb => .inl (p3 b hb))⟩
/-- what block i holds -/
theorem SepF.cell {g k : Nat} {t : TypeId} {cs : List Value} {u : Value} (h : SepF F w0 wr ts) (i : Nat) (hi : ts[i]? = some (tblk g t cs)) (hu : cs[k]? = some u) : wr.cell? ⟨g, k, none⟩ = some u := (show Blk wr g t cs from h.at_ i hi).cell hu
theorem SepF.frz {g k : Nat} {t : TypeId} {cs : List Value} (h : SepF F w0 wr ts) (i : Nat) (hi : ts[i]? = some (tblk g t cs)) : wr.frozen? ⟨g, k, none⟩ = false := (show Blk wr g t cs from h.at_ i hi).frozen k
theorem SepF.blk {g : Nat} {t : TypeId} {cs : List Value} (h : SepF F w0 wr ts) (i : Nat) (hi : ts[i]? = some (tblk g t cs)) : g < wr.heap.size ∧ (g ∈ F ∨ w0.heap.size ≤ g) := ⟨(show Blk wr g t cs from h.at_ i hi).lt, h.new g (SepF.mem hi (by simp [tblk]))⟩
theorem SepF.sl (h : SepF F w0 wr ts) (i : Nat) (hi : ts[i]? = some (tsl E e xs v fp)) : SlOwn E e wr xs v fp := h.at_ i hi
theorem SepF.slnew (h : SepF F w0 wr ts) (i : Nat) (hi : ts[i]? = some (tsl E e xs v fp)) : ∀ b, b ∈ fp → (b ∈ F ∨ w0.heap.size ≤ b) ∧ b < wr.heap.size := fun b hb => ⟨h.new b (SepF.mem hi hb), (show SlOwn E e wr xs v fp from h.at_ i hi).olt b hb⟩
theorem SepF.rowne {g : Nat} {t : TypeId} {cs : List Value} (h : SepF F w0 wr ts) (i j : Nat) (hi : ts[i]? = some (tsl E e xs v fp)) (hj : ts[j]? = some (tblk g t cs)) (hij : i ≠ j) : some g ≠ v.ownBlock := fun hh => h.apart hi hj hij g (row_in (h.sl i hi) hh.symm) (by simp [tblk])
end
end Mm
end Go.Proofs.Ytnppcdiicnofpab

/-
  More on the list of things that a call may change: at its end, some of them, behind a call that hands back things. No program in sight. No conditions.
-/
namespace Go.Proofs.Ytnppcdiicnofpab
open Go.RowKit
namespace Mm
section
variable {F : List Nat} {w0 wr W : World} {ts : List Thing} {t a b c d x y : Thing}
theorem SepF.addEnd (h : SepF F w0 wr ts) (hb : Below wr.heap.size wr W) (ht : t.holds W) (hnd : t.fp.Nodup) (hnew : ∀ b, b ∈ t.fp → wr.heap.size ≤ b) : SepF F w0 W (ts ++ [t]) :=
  (h.add hb ht hnd hnew).conv (by simp only [List.flatMap_append, List.flatMap_cons, List.flatMap_nil, List.append_nil]; exact List.perm_append_comm) (fun u hu => by
    rcases List.mem_append.1 hu with hu | hu
    · exact (h.step hb).hold u hu
    · rw [List.mem_singleton.1 hu]; exact ht)
theorem SepF.allocEnd {g : Nat} (h : SepF F w0 wr ts) (hg : wr.heap.size = g) (T : TypeId) (cs : List Value) : SepF F w0 (wr.alloc (.cells cs.toArray T)) (ts ++ [tblk g T cs]) := by
  subst hg
  exact h.addEnd (below_new (Below.refl _ _) _) (Blk.new wr T cs) (by simp [tblk]) (by simp [tblk])
theorem SepF.swapEnd (h : SepF F w0 wr (ts ++ [x, y])) : SepF F w0 wr (ts ++ [y, x]) :=
  h.conv (by simp only [List.flatMap_append, List.flatMap_cons, List.flatMap_nil, List.append_nil]; exact List.Perm.append_left _ List.perm_append_comm) (fun u hu => h.hold u (by
    simp only [List.mem_append, List.mem_cons, List.not_mem_nil, or_false] at hu ⊢
    rcases hu with hu | hu | hu
    · exact .inl hu
    · exact .inr (.inr hu)
    · exact .inr (.inl hu)))
/-- some of the things, by their numbers -/
theorem SepF.sel (h : SepF F w0 wr ts) : ∀ (is : List Nat) {us : List Thing}, is.Nodup → us = is.filterMap (fun i => ts[i]?) → SepF F w0 wr us
  | [], us, _, hu => by subst hu; exact ⟨h.chg, by simp, by simp, by simp⟩
  | i :: is, us, hn, hu => by
    rw [List.nodup_cons] at hn
    have ih := SepF.sel h is (us := is.filterMap (fun i => ts[i]?)) hn.2 rfl
    cases hi : ts[i]? with
    | none => rw [List.filterMap_cons, hi] at hu; rw [hu]; exact ih
    | some t =>
      rw [List.filterMap_cons, hi] at hu
      rw [hu]
      refine ⟨h.chg, ?_, fun b hb => ?_, fun u hu => ?_⟩
      · rw [List.flatMap_cons, List.nodup_append]
        refine ⟨h.ndat hi, ih.nd, fun a ha b hb e => ?_⟩
        subst e
        obtain ⟨s, hs, hb⟩ := List.mem_flatMap.1 hb
        obtain ⟨j, hj, hs⟩ := List.mem_filterMap.1 hs
        exact h.apart hi hs (fun e => hn.1 (e ▸ hj)) a ha hb
      · rw [List.flatMap_cons] at hb
        rcases List.mem_append.1 hb with hb | hb
        · exact h.new b (SepF.mem hi hb)
        · exact ih.new b hb
      · rcases List.mem_cons.1 hu with rfl | hu
        · exact h.at_ i hi
        · exact ih.hold u hu
/-- behind a call that was handed thing i, and hands back things -/
theorem SepF.callAll {us : List Thing} (h : SepF F w0 wr ts) (i : Nat) (hi : ts[i]? = some t) (hS : SepF t.fp wr W us) : SepF F w0 W (ts.set i tnil ++ us) := by
  have h1 := h.upd (t' := ⟨us.flatMap (·.fp), fun w => ∀ u, u ∈ us → u.holds w, fun hh k u hu => u.keep (hh u hu) fun b hb => k b (List.mem_flatMap.2 ⟨u, hu, hb⟩), fun hh b hb => by
    obtain ⟨u, hu, hb⟩ := List.mem_flatMap.1 hb
    exact u.lt (hh u hu) b hb⟩) hi hS.chg hS.hold hS.nd hS.new
  have e1 := (flat_split (·.fp) hi ⟨us.flatMap (·.fp), fun w => ∀ u, u ∈ us → u.holds w, fun hh k u hu => u.keep (hh u hu) fun b hb => k b (List.mem_flatMap.2 ⟨u, hu, hb⟩), fun hh b hb => by
    obtain ⟨u, hu, hb⟩ := List.mem_flatMap.1 hb
    exact u.lt (hh u hu) b hb⟩).2
  have e2 := (flat_split (·.fp) hi tnil).2
  refine h1.conv ?_ (fun u hu => ?_)
  · rw [List.flatMap_append, e1, e2]
    simp only [tnil, List.nil_append, List.append_assoc]
    exact List.Perm.append_left _ List.perm_append_comm
  · rcases List.mem_append.1 hu with hu | hu
    · obtain ⟨k, hk⟩ := List.mem_iff_getElem?.1 hu
      by_cases hik : i = k
      · subst hik
        rw [List.getElem?_set_self (List.getElem?_eq_some_iff.1 hi).1] at hk
        injection hk with hk
        subst hk
        exact trivial
      · refine h1.hold u (List.mem_of_getElem? (i := k) ?_)
        rw [List.getElem?_set_ne hik] at hk ⊢
        exact hk
    · exact hS.hold u hu
theorem SepF.start (w : World) : SepF [] w w [] := ⟨Chg.refl _ _, by simp, by simp, by simp⟩
theorem SepF.bel0 (h : SepF [] w0 wr ts) : Below w0.heap.size w0 wr := Below.chg (Below.refl _ _) h.chg (Nat.le_refl _) (by simp)
end
theorem lt_keep {w w' : World} {b : Nat} (h : b < w.heap.size) (k : w'.heap[b]? = w.heap[b]?) : b < w'.heap.size := by
  rcases Nat.lt_or_ge b w'.heap.size with h3 | h3
  · exact h3
  · rw [Array.getElem?_eq_none h3, Array.getElem?_eq_getElem h] at k
    cases k
/-- data that several variables share -/
def tpool {α : Type} (R : Rep α) (fp : List Nat) (ss : List (α × List Value)) : Thing :=
  ⟨fp, fun w => (∀ b, b ∈ fp → b < w.heap.size) ∧ ∀ p, p ∈ ss → ∃ f, (∀ b, b ∈ f → b ∈ fp) ∧ R.own w p.1 p.2 f,
    fun h k => And.intro (fun b hb => lt_keep (h.1 b hb) (k b hb)) (fun p hp => (h.2 p hp).elim fun f hf => ⟨f, hf.1, R.okeep hf.2 fun b hb => k b (hf.1 b hb)⟩), fun h => h.1⟩
theorem SepF.pool {α : Type} {R : Rep α} {F : List Nat} {w0 wr : World} {ts : List Thing} {fp : List Nat} {ss : List (α × List Value)} (h : SepF F w0 wr ts) (i : Nat) (hi : ts[i]? = some (tpool R fp ss)) {x : α} {cs : List Value} (hx : (x, cs) ∈ ss) : R.at_ wr wr.heap.size x cs := by
  obtain ⟨h1, h2⟩ := h.at_ i hi
  obtain ⟨f, h3, h4⟩ := h2 _ hx
  exact R.weak h4 (R.olt h4)
theorem SepF.pool2 {α : Type} {R : Rep α} {F : List Nat} {w0 wr : World} {ts : List Thing} {fp fx fy : List Nat} {ss ss' : List (α × List Value)} {x y : α} {cx cy : List Value} (h : SepF F w0 wr (tpool R fp ss :: tow R x cx fx :: tow R y cy fy :: ts))
    (hs : ∀ p, p ∈ ss' → p ∈ ss ∨ p = (x, cx) ∨ p = (y, cy)) : SepF F w0 wr (tpool R (fp ++ (fx ++ fy)) ss' :: ts) := by
  have h0 := h.hold _ List.mem_cons_self
  have h1 : R.own wr x cx fx := h.hold (tow R x cx fx) (by simp)
  have h2 : R.own wr y cy fy := h.hold (tow R y cy fy) (by simp)
  refine h.conv (by simp [tpool, tow]) (List.forall_mem_cons.2 ⟨⟨fun b hb => ?_, fun p hp => ?_⟩, fun u hu => h.hold u (by simp [hu])⟩)
  · rcases List.mem_append.1 hb with hb | hb
    · exact h0.1 b hb
    · rcases List.mem_append.1 hb with hb | hb
      · exact R.olt h1 b hb
      · exact R.olt h2 b hb
  · rcases hs p hp with hp | rfl | rfl
    · obtain ⟨f, h3, h4⟩ := h0.2 p hp
      exact ⟨f, fun b hb => List.mem_append_left _ (h3 b hb), h4⟩
    · exact ⟨fx, fun b hb => List.mem_append_right _ (List.mem_append_left _ hb), h1⟩
    · exact ⟨fy, fun b hb => List.mem_append_right _ (List.mem_append_right _ hb), h2⟩
/-- the reading of an owned struct among the things -/
theorem SepF.rd {α : Type} {R : Rep α} {F : List Nat} {w0 wr : World} {ts : List Thing} {x : α} {cs : List Value} {fp : List Nat} (h : SepF F w0 wr ts) (i : Nat) (hi : ts[i]? = some (tow R x cs fp)) : R.at_ wr wr.heap.size x cs := by
  have h1 : R.own wr x cs fp := h.at_ i hi
  exact R.weak h1 (R.olt h1)
end Mm
end Go.Proofs.Ytnppcdiicnofpab

/-
  slices.Insert with one element, and append of zero values, on slices that the call owns and whose elements are one cell each and lead nowhere. No program in sight. No conditions.
-/
namespace Go.Proofs.Ytnppcdiicnofpab
open Go.RowKit
namespace Mm
theorem flat_sub {β γ : Type} (f : β → List γ) {us ts : List β} (h : us.Sublist ts) : (us.flatMap f).Sublist (ts.flatMap f) := by
  induction h with
  | slnil => exact List.Sublist.refl _
  | cons a _ ih => rw [List.flatMap_cons]; exact ih.trans (List.sublist_append_right _ _)
  | cons_cons a _ ih => rw [List.flatMap_cons, List.flatMap_cons]; exact (List.Sublist.refl _).append ih
/-- fewer things -/
theorem SepF.sub {F : List Nat} {w0 wr : World} {ts us : List Thing} (h : SepF F w0 wr ts) (hs : us.Sublist ts) : SepF F w0 wr us :=
  ⟨h.chg, h.nd.sublist (flat_sub (·.fp) hs), fun b hb => h.new b ((flat_sub (·.fp) hs).subset hb), fun u hu => h.hold u (hs.subset hu)⟩
/-- elements of one cell that lead nowhere -/
structure Flat1 {α : Type} (E : Rep α) (val : α → Value) : Prop where
  size : E.size = 1
  one : ∀ x, (val x).oneCell' = true
  inv : ∀ {w x cs fx}, E.own w x cs fx → cs = [val x] ∧ fx = [] ∧ ∀ w', E.own w' x [val x] []
theorem flat1_int : Flat1 int (fun x => .int .i64 x) := ⟨rfl, fun _ => rfl, fun h => ⟨h.1, h.2.2, fun _ => ⟨rfl, h.2.1, rfl⟩⟩⟩
theorem flat1_str : Flat1 str (fun x => .string x) := ⟨rfl, fun _ => rfl, fun h => ⟨h.1, h.2.2, fun _ => ⟨rfl, h.2.1, rfl⟩⟩⟩
theorem fm_val {α : Type} (val : α → Value) : ∀ xs : List α, xs.flatMap (fun x => [val x]) = xs.map val
  | [] => rfl
  | a :: t => by rw [List.flatMap_cons, fm_val val t]; rfl
theorem shape_blk {w : World} {g : Nat} {t : TypeId} {cs : List Value} (h : Blk w g t cs) : w.shape? g = some (t, cs.length) := by
  unfold Blk at h
  unfold World.shape?
  rw [h]
  simp
section
variable {α : Type} {E : Rep α} {val : α → Value} {e : TypeId} {w w' : World} {xs : List α} {v : Value} {fp : List Nat} {g n c : Nat}
theorem Flat1.owns (hF : Flat1 E val) (h : SlOwn E e w xs v fp) : w.ownsRow 0 e 1 v xs.length (xs.map val) ∧ fp = v.ownBlock.toList ∧ ∀ x, x ∈ xs → ∀ w', E.own w' x [val x] [] := by
  obtain ⟨es, he, ho, rfl⟩ := h
  have h1 : es = xs.map fun x => ([val x], ([] : List Nat)) := by
    apply List.ext_getElem?
    intro i
    rw [List.getElem?_map]
    rcases Nat.lt_or_ge i xs.length with hi | hi
    · have hx := List.getElem?_eq_getElem hi
      have hy := List.getElem?_eq_getElem (show i < es.length by rw [he.1]; exact hi)
      have h2 := hF.inv (he.2 i _ _ hx hy)
      rw [hx, hy]
      exact congrArg some (Prod.ext h2.1 h2.2.1)
    · rw [List.getElem?_eq_none hi, List.getElem?_eq_none (by rw [he.1]; exact hi)]
      rfl
  have h3 : (xs.map fun x => ([val x], ([] : List Nat))).flatMap (·.1) = xs.map val := by rw [List.flatMap_map]; exact fm_val val xs
  have h4 : (xs.map fun x => ([val x], ([] : List Nat))).flatMap (·.2) = [] := by simp [List.flatMap_map]
  refine ⟨?_, by rw [h1, h4]; simp, fun x hx w' => ?_⟩
  · rw [h1, h3, hF.size] at ho
    exact ho
  · obtain ⟨i, hi, rfl⟩ := List.mem_iff_getElem.1 hx
    exact (hF.inv (he.2 i _ _ (List.getElem?_eq_getElem hi) (List.getElem?_eq_getElem (show i < es.length by rw [he.1]; exact hi)))).2.2 w'
theorem Flat1.row (hF : Flat1 E val) (ho : w.ownsRow 0 e 1 v xs.length (xs.map val)) (hE : ∀ x, x ∈ xs → E.own w x [val x] []) : SlOwn E e w xs v v.ownBlock.toList :=
  SlOwn.of_row (enc := fun x => [val x]) (by
    rw [hF.size, show xs.flatMap (fun x => [val x]) = xs.map val from fm_val val xs]
    exact ho) hE rfl
theorem Flat1.blk (hF : Flat1 E val) (h : SlOwn E e w xs (.slice (some ⟨g, 0, none⟩) n c) fp) : ∃ cur, Blk w g e cur ∧ cur.length = c ∧ cur.take n = xs.map val ∧ n = xs.length ∧ n ≤ c ∧ c ≤ maxLen ∧ fp = [g] := by
  obtain ⟨h1, h2, _⟩ := hF.owns h
  rcases h1.2 with ⟨h3, _⟩ | ⟨g', cap, cur, h3, _, hg, hnc, hcm, hcs, htake⟩
  · simp at h3
  · simp only [Value.slice.injEq, Option.some.injEq, Addr.mk.injEq, and_true] at h3
    obtain ⟨rfl, rfl, rfl⟩ := h3
    refine ⟨cur.toList, by unfold Blk; rw [Array.toArray_toList]; exact hg, by simpa using hcs, by simpa using htake, rfl, hnc, hcm, by rw [h2]; simp [Value.ownBlock]⟩
theorem Flat1.of_blk (hF : Flat1 E val) {cur : List Value} (h : Blk w g e cur) (hl : cur.length = c) (ht : cur.take n = xs.map val) (hn : xs.length = n) (hnc : n ≤ c) (hc : c ≤ maxLen) (hE : ∀ x, x ∈ xs → E.own w x [val x] []) : SlOwn E e w xs (.slice (some ⟨g, 0, none⟩) n c) [g] := by
  subst hn
  exact hF.row ⟨by simp, .inr ⟨g, c, cur.toArray, rfl, Nat.zero_le _, h, hnc, hc, by simpa using hl, by simpa using ht⟩⟩ hE
theorem Flat1.cell (hF : Flat1 E val) (h : SlOwn E e w xs (.slice (some ⟨g, 0, none⟩) n c) fp) {k : Nat} {x : α} (hk : xs[k]? = some x) : w.cell? ⟨g, k, none⟩ = some (val x) := by
  obtain ⟨cur, hb, hcl, ht, hn, hnc, _⟩ := hF.blk h
  have hkn := (List.getElem?_eq_some_iff.1 hk).1
  refine hb.cell ?_
  have h1 : (cur.take n)[k]? = some (val x) := by rw [ht, List.getElem?_map, hk]; rfl
  rw [List.getElem?_take, if_pos (by omega)] at h1
  exact h1
theorem setCells_blk : ∀ (vs : List Value) (w : World) (o : Nat) (cs : List Value), Blk w g e cs → Blk (w.setCells g o vs) g e (setList cs o vs)
  | [], _, _, _, h => h
  | v :: r, _, o, _, h => setCells_blk r _ (o + 1) _ (h.set_ o v)
theorem setCells_chg (g : Nat) : ∀ (vs : List Value) (w : World) (o : Nat), Chg [g] w (w.setCells g o vs)
  | [], w, _ => Chg.refl _ _
  | v :: r, w, o => ((Chg.refl [g] w).setCell (p := ⟨g, o, none⟩) (by simp) v).trans (setCells_chg g r _ (o + 1))
theorem ins_cells {cur ys : List Value} {u : Value} {i : Nat} (ht : cur.take n = ys) (hn : ys.length = n) (hi : i < n) (hroom : n + 1 ≤ cur.length) :
    (setList (setList cur (i + 1) (ys.drop i)) i [u]).take n = Pl.insAt ys i u := by
  apply List.ext_getElem?
  intro j
  rw [Pl.insAt_get _ _ _ (by omega), List.getElem?_take, hn]
  by_cases hj : n ≤ j
  · rw [if_neg (by omega), if_pos hj]
  · rw [if_pos (by omega), if_neg hj, setList_get _ _ _ _ (by rw [setList_len]; simp; omega)]
    by_cases h1 : j < i
    · rw [if_pos h1, if_neg (by omega), setList_get _ _ _ _ (by rw [List.length_drop]; omega), if_neg (by omega), ← ht, List.getElem?_take, if_pos (by omega)]
    · rw [if_neg h1]
      by_cases h2 : j = i
      · subst h2
        rw [if_pos rfl, if_pos (by simp), Nat.sub_self]; rfl
      · rw [if_neg h2, if_neg (by simp; omega), setList_get _ _ _ _ (by rw [List.length_drop]; omega), if_pos (by rw [List.length_drop]; omega), List.getElem?_drop]
        congr 1; omega
theorem ins_cells' {rest ys : List Value} {z u : Value} {i k : Nat} (hn : ys.length = n) (hi : i < n) (hk : (ys.take i ++ List.replicate (n + 1 - i) z ++ rest).length = k) :
    (setList (setList (ys.take i ++ List.replicate (n + 1 - i) z ++ rest) i [u]) (i + 1) (ys.drop i)).take n = Pl.insAt ys i u := by
  have hl : n + 1 ≤ (ys.take i ++ List.replicate (n + 1 - i) z ++ rest).length := by
    rw [List.length_append, List.length_append, List.length_take, List.length_replicate]; omega
  apply List.ext_getElem?
  intro j
  rw [Pl.insAt_get _ _ _ (by omega), List.getElem?_take, hn]
  by_cases hj : n ≤ j
  · rw [if_neg (by omega), if_pos hj]
  · rw [if_pos (by omega), if_neg hj, setList_get _ _ _ _ (by rw [setList_len, List.length_drop]; omega)]
    by_cases h1 : j < i
    · rw [if_pos h1, if_neg (by omega), setList_get _ _ _ _ (by simp only [List.length_singleton]; omega), if_neg (by omega), List.getElem?_append_left (by rw [List.length_append, List.length_take, List.length_replicate]; omega), List.getElem?_append_left (by rw [List.length_take]; omega), List.getElem?_take, if_pos h1]
    · rw [if_neg h1]
      by_cases h2 : j = i
      · subst h2
        rw [if_pos rfl, if_neg (by omega), setList_get _ _ _ _ (by simp only [List.length_singleton]; omega), if_pos (by simp), Nat.sub_self]; rfl
      · rw [if_neg h2, if_pos (by rw [List.length_drop]; omega), List.getElem?_drop]
        congr 1; omega
/-- behind slices.Insert of one element, where there was room: the slice cut back to its old length -/
theorem ins_shift {F : List Nat} {w0 wr : World} {ts : List Thing} {i k : Nat} {x : α} (hF : Flat1 E val) (h : SepF F w0 wr ts) (hi : ts[i]? = some (tsl E e xs (.slice (some ⟨g, 0, none⟩) n c) fp)) (hk : k < n) (hroom : n + 1 ≤ c) (hx : ∀ w, E.own w x [val x] []) {off1 off2 : Nat} (h1 : k + 1 = off1) (h2 : k = off2) :
    SepF F w0 ((wr.drew.setCells g off1 ((xs.map val).drop k)).setCells g off2 [val x]) (ts.set i (tsl E e (Pl.insAt xs k x) (.slice (some ⟨g, 0, none⟩) n c) fp)) := by
  subst h1; subst h2
  have hs : SlOwn E e wr xs (.slice (some ⟨g, 0, none⟩) n c) fp := h.at_ i hi
  obtain ⟨cur, hb, hcl, ht, hn, hnc, hcm, rfl⟩ := hF.blk hs
  have hxs := (hF.owns hs).2.2
  have hd : Blk wr.drew g e cur := hb
  have hb2 := setCells_blk [val x] _ k _ (setCells_blk ((xs.map val).drop k) _ (k + 1) _ hd)
  refine h.upd hi (((Chg.of_below (Below.refl wr.heap.size wr).drew).trans (setCells_chg g _ _ _)).trans (setCells_chg g _ _ _)) (t' := tsl E e (Pl.insAt xs k x) (.slice (some ⟨g, 0, none⟩) n c) [g]) ?_ (by simp [tsl]) (fun b hb => .inl hb)
  refine hF.of_blk hb2 (by rw [setList_len, setList_len, hcl]) ?_ (by rw [Pl.insAt_len _ _ _ (by omega)]; omega) hnc hcm (fun y hy => ?_)
  · rw [ins_cells ht (by rw [List.length_map]; omega) hk (by omega), Pl.insAt_map]
  · rcases Pl.insAt_mem hy with hy | rfl
    · exact hxs y hy _
    · exact hx _
/-- the same, where it has moved -/
theorem ins_grow {F : List Nat} {w0 wr : World} {ts : List Thing} {i k : Nat} {x : α} {z : Value} {ROW : Array Value} {G : Nat} (hF : Flat1 E val) (h : SepF F w0 wr ts) (hi : ts[i]? = some (tsl E e xs (.slice (some ⟨g, 0, none⟩) n c) fp)) (hk : k < n) (hx : ∀ w, E.own w x [val x] []) {off1 off2 : Nat} (h1 : k = off1) (h2 : k + 1 = off2) (hG : n + 1 ≤ G) (hGm : G ≤ maxLen)
    (hR : ROW = ((xs.map val).take k).toArray ++ Builtin.zeroCells #[z] (n + 1 - k) ++ Builtin.zeroCells #[z] (G - (n + 1))) :
    SepF F w0 ((((wr.alloc (.cells ROW e)).drew.setCells wr.heap.size off1 [val x]).drew).setCells wr.heap.size off2 ((xs.map val).drop k)) (ts.set i (tsl E e (Pl.insAt xs k x) (.slice (some ⟨wr.heap.size, 0, none⟩) n G) [wr.heap.size])) := by
  subst h1; subst h2
  have hs : SlOwn E e wr xs (.slice (some ⟨g, 0, none⟩) n c) fp := h.at_ i hi
  obtain ⟨cur, hb, hcl, ht, hn, hnc, hcm, rfl⟩ := hF.blk hs
  have hxs := (hF.owns hs).2.2
  have hz : ∀ m, (Builtin.zeroCells #[z] m).toList = List.replicate m z := fun m => by
    apply List.ext_getElem?
    intro j
    by_cases hj : j < m <;> simp [Builtin.zeroCells, hj, Nat.mod_one]
  have hRl : ROW.toList = (xs.map val).take k ++ List.replicate (n + 1 - k) z ++ List.replicate (G - (n + 1)) z := by
    rw [hR]; simp [hz]
  have hRs : ROW.toList.length = G := by
    rw [hRl]; simp; omega
  have hd : Blk (wr.alloc (.cells ROW e)).drew wr.heap.size e ROW.toList := by
    have := Blk.new wr e ROW.toList
    rw [Array.toArray_toList] at this
    exact this
  have hb1 : Blk (((wr.alloc (.cells ROW e)).drew.setCells wr.heap.size k [val x]).drew) wr.heap.size e (setList ROW.toList k [val x]) := setCells_blk [val x] _ k _ hd
  have hb2 := setCells_blk ((xs.map val).drop k) _ (k + 1) _ hb1
  have hch : Below wr.heap.size wr ((((wr.alloc (.cells ROW e)).drew.setCells wr.heap.size k [val x]).drew).setCells wr.heap.size (k + 1) ((xs.map val).drop k)) := by
    have q1 : Below wr.heap.size wr (wr.alloc (.cells ROW e)).drew := (below_new (Below.refl _ _) _).drew
    have q2 := Below.chg q1 (setCells_chg wr.heap.size [val x] _ k) q1.size (fun b hb => by rw [List.mem_singleton.1 hb]; exact Nat.le_refl _)
    have q3 := Below.chg q2.drew (setCells_chg wr.heap.size ((xs.map val).drop k) _ (k + 1)) q2.drew.size (fun b hb => by rw [List.mem_singleton.1 hb]; exact Nat.le_refl _)
    exact q3
  refine h.upd hi (Chg.of_below hch) (t' := tsl E e (Pl.insAt xs k x) (.slice (some ⟨wr.heap.size, 0, none⟩) n G) [wr.heap.size]) ?_ (by simp [tsl]) (fun b hb => .inr (by simp [tsl] at hb; omega))
  refine hF.of_blk hb2 (by rw [setList_len, setList_len, hRs]) ?_ (by rw [Pl.insAt_len _ _ _ (by omega)]; omega) (by omega) hGm (fun y hy => ?_)
  · rw [hRl, ins_cells' (by rw [List.length_map]; omega) hk rfl, Pl.insAt_map]
  · rcases Pl.insAt_mem hy with hy | rfl
    · exact hxs y hy _
    · exact hx _
end
section
variable {P : Program} (w : World)
/-- append(s, make([]T, k)...) on a slice that the call owns -/
theorem run_append_own_zeros (t tn ty e : TypeId) (i : TypeInfo) (z : Value) (bytes : Nat) (ht : P.underlying t = some (.slice e)) (htn : P.underlying tn = some (.int .i64)) (hi : P.info? e = some i) (hz : i.zero = some z) (hsize : i.size = 1) (hby : i.bytes = bytes) (hzs : z.cells = #[z]) (hz1 : z.oneCell' = true)
    (v : Value) (n : Nat) (xs : List Value) (hown : w.ownsRow 0 e 1 v n xs) (k : Nat) (hnk : n + k ≤ maxLen) (hbytes : (n + k) * bytes ≤ 140737488355328) :
    ∃ v' w', (Builtin.append_ #[t, tn] ty #[v, .int .i64 k]).run P w = .ok v' w' ∧ w'.ownsRow 0 e 1 v' (n + k) (xs ++ List.replicate k z) ∧ w.grownBy w' v.ownBlock ∧ (v'.ownBlock = v.ownBlock ∨ v'.ownBlock = some w.heap.size) := by
  subst hby
  have hzc : ∀ m, (Builtin.zeroCells z.cells m).toList = List.replicate m z := fun m => by
    rw [hzs]
    apply List.ext_getElem?
    intro j
    by_cases hj : j < m <;> simp [Builtin.zeroCells, hj, Nat.mod_one]
  have hlen : (xs ++ List.replicate k z).length = n + k := by rw [List.length_append, hown.1, List.length_replicate]; omega
  have hm63 : n + k ≤ 9223372036854775807 := by unfold maxLen at hnk; omega
  have hkb : k * i.bytes ≤ 281474976710656 := by
    have := Nat.mul_le_mul_right i.bytes (show k ≤ n + k by omega)
    omega
  have grown : ∀ (old : Nat) (row : Option Nat),
      (w.drew.alloc (.cells (xs.toArray ++ Builtin.zeroCells z.cells k ++ Builtin.zeroCells z.cells (grownCap w (n + k) old e - (n + k))) e)).ownsRow 0 e 1
        (.slice (some ⟨w.heap.size, 0, none⟩) (n + k) (grownCap w (n + k) old e)) (n + k) (xs ++ List.replicate k z) ∧
      w.grownBy (w.drew.alloc (.cells (xs.toArray ++ Builtin.zeroCells z.cells k ++ Builtin.zeroCells z.cells (grownCap w (n + k) old e - (n + k))) e)) row := by
    intro old row
    have hge := grownCap_ge w (n + k) old e
    have hcm : grownCap w (n + k) old e ≤ maxLen := grownCap_le_maxLen w (n + k) old e hnk
    refine ⟨⟨by rw [hlen]; omega, .inr ⟨w.heap.size, _, _, rfl, Nat.zero_le _, heap_alloc_new w.drew _, hge, hcm, ?_, ?_⟩⟩, ⟨rfl, rfl, rfl, by simp, fun k hk _ => heap_alloc_old w.drew _ hk⟩⟩
    · have := hown.1
      simp only [Array.size_append, List.size_toArray, size_zeroCells, hzs, Nat.mul_one, List.size_toArray]
      simp
      omega
    · simp only [Array.toList_append, hzc]
      rw [Nat.mul_one, ← hlen]
      exact List.take_left
  rcases hown.2 with ⟨rfl, rfl⟩ | ⟨g, cap, cur, rfl, hbg, hg, hnc, hcm, hcs, htake⟩
  · have hx : xs = [] := List.eq_nil_of_length_eq_zero (by simpa using hown.1)
    subst hx
    rcases Nat.eq_zero_or_pos k with rfl | hk
    · refine ⟨_, w, ?_, by simpa using World.ownsRow_nil w 0 e 1, ⟨rfl, rfl, rfl, Nat.le_refl _, fun _ _ _ => rfl⟩, .inl rfl⟩
      have hw : IntKind.i64.wrap 0 = 0 := by decide
      simp [Builtin.append_, run_underlying ht, run_underlying htn, sizeOf, typeInfo, hi, asInt, asIntOf, hw]
    · have hr := Lib.run_append_nil_zeros (P := P) w t tn ty e i z .i64 .i64 ht htn hi hz k hk (by omega) (by omega) hkb
      obtain ⟨g1, g2⟩ := grown 0 none
      simp only [Nat.zero_add] at g1 g2
      refine ⟨_, _, hr, ?_, ?_, .inr rfl⟩
      · have : (([] : List Value).toArray ++ Builtin.zeroCells z.cells k) = Builtin.zeroCells z.cells k := by simp
        rw [this] at g1
        rw [Nat.zero_add]
        exact g1
      · have : (([] : List Value).toArray ++ Builtin.zeroCells z.cells k) = Builtin.zeroCells z.cells k := by simp
        rw [this] at g2
        exact g2
  · have hw : IntKind.i64.wrap (k : Int) = k := by rw [IntKind.wrap_i64]; omega
    have hcl : cur.toList.length = cap := by rw [Array.length_toList, hcs, Nat.mul_one]
    have hxl : xs.length = n := by rw [hown.1, Nat.mul_one]
    rcases Nat.lt_or_ge cap (n + k) with hlt | hroom
    · have hold : (Builtin.firstCells i.size n (.slice (some ⟨g, 0, none⟩) n cap)).run P w.drew = .ok xs.toArray w.drew := by
        rw [hsize]
        exact run_firstCells_some w.drew 1 n ⟨g, 0, none⟩ n cap xs (by rw [hxl]; omega) (fun j v hj => by
          have := hown.cells (g := g) rfl j v hj
          exact this)
      have hr := Lib.run_append_grow_zeros (P := P) w t tn ty e i z .i64 .i64 ht htn hi hz (some ⟨g, 0, none⟩) n cap xs hold k (by omega) (by omega) hlt (by omega) hkb (growslice_fits hlt hbytes)
      obtain ⟨g1, g2⟩ := grown cap (some g)
      exact ⟨_, _, hr, g1, g2, .inr rfl⟩
    · rcases Nat.eq_zero_or_pos k with rfl | hk
      · refine ⟨.slice (some ⟨g, 0, none⟩) (n + 0) cap, w, ?_, by simpa using hown, ⟨rfl, rfl, rfl, Nat.le_refl _, fun _ _ _ => rfl⟩, .inl rfl⟩
        have hw0 : IntKind.i64.wrap 0 = 0 := by decide
        simp [Builtin.append_, run_underlying ht, run_underlying htn, sizeOf, typeInfo, hi, asInt, asIntOf, hw0, hnc, storeCells]
      · have hst := run_storeCells_at P g n e (List.replicate k z) 0 cur w hg (by rw [List.length_replicate]; have := hcs; omega) (fun v hv => by rw [(List.mem_replicate.1 hv).2]; exact hz1)
        simp only [Nat.add_zero, List.length_replicate] at hst
        have hks : ¬ (k = 0) := by omega
        have hneg : ¬ ((k : Int) < 0) := by omega
        have h48i : ¬ (281474976710656 < (k : Int) * (i.bytes : Int)) := by
          rw [← Int.natCast_mul]
          omega
        have hr : (Builtin.append_ #[t, tn] ty #[.slice (some ⟨g, 0, none⟩) n cap, .int .i64 k]).run P w = .ok (.slice (some ⟨g, 0, none⟩) (n + k) cap) (w.setRow g (cur.toList.take n ++ List.replicate k z ++ cur.toList.drop (n + k)).toArray) := by
          simp [Builtin.append_, run_underlying ht, run_underlying htn, sizeOf, typeInfo, zeroValue, hi, hz, asInt, asIntOf, hw, hneg, h48i, hsize, hks, hroom, Addr.add_lit, hzc, hst]
        refine ⟨_, _, hr, ⟨by rw [hlen]; omega, .inr ⟨g, cap, _, rfl, hbg, setRow_heap w g cur _ e _ hg, hroom, hcm, ?_, ?_⟩⟩, ⟨rfl, rfl, rfl, by simp, fun k hk hn => setRow_other w g k _ (fun e => hn (by simp [e, Value.ownBlock]))⟩, .inl rfl⟩
        · simp only [List.size_toArray, List.length_append, List.length_take, List.length_drop, List.length_replicate, hcl]
          omega
        · rw [Nat.mul_one] at htake ⊢
          show ((cur.toList.take n ++ List.replicate k z) ++ cur.toList.drop (n + k)).take (n + k) = _
          rw [htake, ← hlen]
          exact List.take_left
end
theorem SepF.perm {F : List Nat} {w0 wr : World} {ts us : List Thing} (h : SepF F w0 wr ts) (hp : us.Perm ts) : SepF F w0 wr us :=
  h.conv (List.Perm.flatMap_right _ hp) fun u hu => h.hold u (hp.mem_iff.1 hu)
/-- the third thing in front -/
theorem SepF.front3 {F : List Nat} {w0 wr : World} {ts : List Thing} {a b c : Thing} (h : SepF F w0 wr (a :: b :: c :: ts)) : SepF F w0 wr (c :: a :: b :: ts) :=
  h.perm (List.perm_middle (l₁ := [a, b])).symm
/-- append of zero values, on one of the things -/
theorem SepF.zeros {P : Program} {α : Type} {E : Rep α} {val : α → Value} {F : List Nat} {w0 w : World} {ts : List Thing} {i : Nat} {xs : List α} {v : Value} {fp : List Nat} {z0 : α} (hF : Flat1 E val) (h : SepF F w0 w ts) (t tn ty e : TypeId) (ii : TypeInfo) (z : Value) (bytes : Nat) (hi : ts[i]? = some (tsl E e xs v fp)) (ht : P.underlying t = some (.slice e)) (htn : P.underlying tn = some (.int .i64)) (hin : P.info? e = some ii) (hz : ii.zero = some z) (hsize : ii.size = 1) (hby : ii.bytes = bytes) (hzs : z.cells = #[z]) (hz1 : z.oneCell' = true)
    (hv : val z0 = z) (hz0 : ∀ w, E.own w z0 [z] []) (k : Nat) (hnk : xs.length + k ≤ maxLen) (hbytes : (xs.length + k) * bytes ≤ 140737488355328) :
    ∃ v' w' fp', (Builtin.append_ #[t, tn] ty #[v, .int .i64 k]).run P w = .ok v' w' ∧ SepF F w0 w' (ts.set i (tsl E e (xs ++ List.replicate k z0) v' fp')) := by
  have hs : SlOwn E e w xs v fp := h.at_ i hi
  obtain ⟨ho, hfp, hx⟩ := hF.owns hs
  obtain ⟨v', w', h1, h2, h3, h4⟩ := run_append_own_zeros (P := P) w (ty := ty) t tn e ii z bytes ht htn hin hz hsize hby hzs hz1 v _ _ ho k hnk hbytes
  refine ⟨v', w', v'.ownBlock.toList, h1, h.upd hi ⟨h3.os, h3.tape, h3.output, h3.size, fun b hb hn => h3.block b hb (fun e => hn (by rw [hfp]; show b ∈ v.ownBlock.toList; rw [← e]; simp))⟩ (t' := tsl E e (xs ++ List.replicate k z0) v' v'.ownBlock.toList) ?_ (by simp only [tsl]; cases v'.ownBlock <;> simp) (fun b hb => ?_)⟩
  · refine hF.row ?_ (fun x hm => ?_)
    · rw [List.length_append, List.length_replicate, List.map_append, List.map_replicate, hv]
      exact h2
    · rcases List.mem_append.1 hm with hm | hm
      · exact hx x hm _
      · rw [(List.mem_replicate.1 hm).2, hv]; exact hz0 _
  · simp only [tsl] at hb ⊢
    rw [hfp]
    rcases h4 with h4 | h4
    · rw [h4] at hb; exact .inl hb
    · rw [h4] at hb; simp at hb; exact .inr (by omega)
end Mm
end Go.Proofs.Ytnppcdiicnofpab

/-
  slices.Insert at elements of several cells: the rows before and behind, and what an owned slice is then. No program in sight. No conditions.
-/
namespace Go.Proofs.Ytnppcdiicnofpab
open Go.RowKit
namespace Mm
section
variable {P : Program}
/-- copy, at elements of s cells: all is read before anything is written -/
theorem run_copy_k (w : World) (dT sT ty elem : TypeId) (s b o dLen dCap : Nat) (a : Addr) (sLen sCap : Nat) (cs : List Value)
    (hu : P.underlying dT = some (.slice elem)) (hs : (P.info? elem).map (·.size) = some s) (hn : cs.length = Nat.min sLen dLen * s)
    (hsrc : ∀ j v, cs[j]? = some v → w.cell? (a.add j) = some v) (hc : ∀ j, j < cs.length → (w.cell? ⟨b, o + j, none⟩).isSome = true) (hf : ∀ j, j < cs.length → w.frozen? ⟨b, o + j, none⟩ = false) (h1 : ∀ v ∈ cs, v.oneCell' = true) :
    (Builtin.copy_ #[dT, sT] ty #[.slice (some ⟨b, o, none⟩) dLen dCap, .slice (some a) sLen sCap]).run P w = .ok (goInt (Nat.min sLen dLen)) (w.setCells b o cs) := by
  have hl := run_loadCells_list (P := P) w a cs hsrc
  have hst := run_storeCells_cells (P := P) b o cs 0 w (by simpa using hc) (by simpa using hf) h1
  cases hq : P.info? elem with
  | none => simp [hq] at hs
  | some i =>
    have hi : i.size = s := by simpa [hq] using hs
    simp [Builtin.copy_, run_underlying hu, Builtin.lenOf, Builtin.firstCells, sizeOf, typeInfo, hq, hi, ← hn, hl, hst]
end
theorem ins_rows {cur cells ct : List Value} {N K S : Nat} (ht : cur.take N = cells) (hl : cells.length = N) (hK : K ≤ N) (hS : ct.length = S) (hroom : N + S ≤ cur.length) :
    (setList (setList cur (K + S) (cells.drop K)) K ct).take (N + S) = cells.take K ++ ct ++ cells.drop K := by
  apply List.ext_getElem?
  intro j
  rw [List.getElem?_take]
  by_cases hj : j < N + S
  · rw [if_pos hj, setList_get _ _ _ _ (by rw [setList_len, hS]; omega), setList_get _ _ _ _ (by rw [List.length_drop, hl]; omega), List.length_drop, hl, hS]
    by_cases h1 : j < K
    · rw [if_neg (by omega), if_neg (by omega), List.append_assoc, List.getElem?_append_left (by rw [List.length_take, hl]; omega), List.getElem?_take, if_pos h1, ← ht, List.getElem?_take, if_pos (by omega)]
    · by_cases h2 : j < K + S
      · rw [if_pos ⟨by omega, h2⟩, List.append_assoc, List.getElem?_append_right (by rw [List.length_take, hl]; omega), List.length_take, hl, Nat.min_eq_left hK, List.getElem?_append_left (by omega)]
      · rw [if_neg (by omega), if_pos (by omega), List.getElem?_append_right (by rw [List.length_append, List.length_take, hl]; omega), List.length_append, List.length_take, hl, Nat.min_eq_left hK, hS]
  · rw [if_neg hj, List.getElem?_eq_none (by rw [List.length_append, List.length_append, List.length_take, List.length_drop, hl, hS]; omega)]
theorem ins_rows' {cur cells ct : List Value} {N K S : Nat} (ht : cur.take K = cells.take K) (hl : cells.length = N) (hK : K ≤ N) (hS : ct.length = S) (hroom : N + S ≤ cur.length) :
    (setList (setList cur K ct) (K + S) (cells.drop K)).take (N + S) = cells.take K ++ ct ++ cells.drop K := by
  apply List.ext_getElem?
  intro j
  rw [List.getElem?_take]
  by_cases hj : j < N + S
  · rw [if_pos hj, setList_get _ _ _ _ (by rw [setList_len, List.length_drop, hl]; omega), setList_get _ _ _ _ (by rw [hS]; omega), List.length_drop, hl, hS]
    by_cases h1 : j < K
    · have h2 : cur[j]? = (cells.take K)[j]? := by rw [← ht, List.getElem?_take, if_pos h1]
      rw [if_neg (by omega), if_neg (by omega), List.append_assoc, List.getElem?_append_left (by rw [List.length_take, hl]; omega), h2]
    · by_cases h2 : j < K + S
      · rw [if_neg (by omega), if_pos ⟨by omega, h2⟩, List.append_assoc, List.getElem?_append_right (by rw [List.length_take, hl]; omega), List.length_take, hl, Nat.min_eq_left hK, List.getElem?_append_left (by omega)]
      · rw [if_pos (by omega), List.getElem?_append_right (by rw [List.length_append, List.length_take, hl]; omega), List.length_append, List.length_take, hl, Nat.min_eq_left hK, hS]
  · rw [if_neg hj, List.getElem?_eq_none (by rw [List.length_append, List.length_append, List.length_take, List.length_drop, hl, hS]; omega)]
/-- one element among the others, at k -/
def insertAt {α : Type} (l : List α) (k : Nat) (x : α) : List α := l.take k ++ x :: l.drop k
theorem insertAt_len {α : Type} (l : List α) (k : Nat) (x : α) : (insertAt l k x).length = l.length + 1 := by
  unfold insertAt
  rw [List.length_append, List.length_cons, ← List.take_append_drop k l, List.length_append]
  simp; omega
theorem insertAt_map {α β : Type} (f : α → β) (l : List α) (k : Nat) (x : α) : (insertAt l k x).map f = insertAt (l.map f) k (f x) := by
  unfold insertAt
  rw [List.map_append, List.map_take, List.map_cons, List.map_drop]
theorem rowsMap_take {β γ : Type} (f : β → List γ) (s : Nat) : ∀ (l : List β) (k : Nat), (∀ y ∈ l, (f y).length = s) → (l.take k).flatMap f = (l.flatMap f).take (k * s)
  | [], k, _ => by simp
  | z :: t, 0, _ => by simp
  | z :: t, k + 1, h => by
    have hz := h z (by simp)
    have e0 : (k + 1) * s = s + k * s := by rw [Nat.add_mul]; omega
    have e1 : (f z).take (s + k * s) = f z := List.take_of_length_le (by omega)
    rw [List.take_succ_cons, List.flatMap_cons, List.flatMap_cons, rowsMap_take f s t k (fun y hy => h y (by simp [hy])), List.take_append, hz, e0, e1, Nat.add_sub_cancel_left]
theorem rowsMap_drop {β γ : Type} (f : β → List γ) (s : Nat) : ∀ (l : List β) (k : Nat), (∀ y ∈ l, (f y).length = s) → (l.drop k).flatMap f = (l.flatMap f).drop (k * s)
  | [], k, _ => by simp
  | z :: t, 0, _ => by simp
  | z :: t, k + 1, h => by
    have hz := h z (by simp)
    have e0 : (k + 1) * s = s + k * s := by rw [Nat.add_mul]; omega
    have e1 : (f z).drop (s + k * s) = [] := List.drop_of_length_le (by omega)
    rw [List.drop_succ_cons, List.flatMap_cons, rowsMap_drop f s t k (fun y hy => h y (by simp [hy])), List.drop_append, hz, e0, e1, Nat.add_sub_cancel_left, List.nil_append]
theorem insertAt_flat {β γ : Type} (f : β → List γ) (s : Nat) (l : List β) (k : Nat) (x : β) (h : ∀ y ∈ l, (f y).length = s) : (insertAt l k x).flatMap f = (l.flatMap f).take (k * s) ++ f x ++ (l.flatMap f).drop (k * s) := by
  unfold insertAt
  rw [List.flatMap_append, List.flatMap_cons, rowsMap_take f s l k h, rowsMap_drop f s l k h, List.append_assoc]
theorem insertAt_get {α : Type} {l : List α} {k i : Nat} {x y : α} (hk : k ≤ l.length) (h : (insertAt l k x)[i]? = some y) : (i < k ∧ l[i]? = some y) ∨ (i = k ∧ y = x) ∨ (k < i ∧ l[i - 1]? = some y) := by
  unfold insertAt at h
  by_cases h1 : i < k
  · rw [List.getElem?_append_left (by rw [List.length_take]; omega), List.getElem?_take, if_pos h1] at h
    exact .inl ⟨h1, h⟩
  · rw [List.getElem?_append_right (by rw [List.length_take]; omega), List.length_take, Nat.min_eq_left hk] at h
    by_cases h2 : i = k
    · subst h2
      rw [Nat.sub_self] at h
      exact .inr (.inl ⟨rfl, by simpa using h.symm⟩)
    · rw [show i - k = (i - k - 1) + 1 by omega, List.getElem?_cons_succ, List.getElem?_drop, show k + (i - k - 1) = i - 1 by omega] at h
      exact .inr (.inr ⟨by omega, h⟩)
theorem insertAt_perm {α : Type} (l : List α) (k : Nat) (x : α) : (insertAt l k x).Perm (x :: l) := by
  unfold insertAt
  refine (List.perm_middle).trans ?_
  rw [List.take_append_drop]
section
variable {α : Type} {E : Rep α} {e : TypeId} {w w' : World} {xs : List α} {v v' : Value} {fp : List Nat}
/-- slices.Insert(out, k, x): what its law asks, and what its answer is worth -/
theorem SlOwn.insert (h : SlOwn E e w xs v fp) {k : Nat} (hk : k ≤ xs.length) {x : α} {cx : List Value} {fx : List Nat} (hx : E.own w x cx fx) (hnd : fp.Nodup) (hxd : fx.Nodup) (hdis : ∀ b, b ∈ fx → b ∉ fp) :
    ∃ l, w.ownsRow 0 e E.size v xs.length l ∧ (∀ u ∈ l, u.oneCell' = true) ∧ ∀ v' w', w'.ownsRow 0 e E.size v' (xs.length + 1) (l.take (k * E.size) ++ cx ++ l.drop (k * E.size)) → w.grownBy w' v.ownBlock → (v'.ownBlock = v.ownBlock ∨ ∀ g, v'.ownBlock = some g → w.heap.size ≤ g) →
      ∃ fp', SlOwn E e w' (insertAt xs k x) v' fp' ∧ fp'.Nodup ∧ ∀ b, b ∈ fp' → b ∈ fp ∨ b ∈ fx ∨ w.heap.size ≤ b := by
  have hlt := h.olt
  have hxlt := E.olt hx
  obtain ⟨es, he, ho, rfl⟩ := h
  refine ⟨_, ho, fun u hu => ?_, fun v' w' ho' hg hat => ?_⟩
  · obtain ⟨y, hy, hu⟩ := List.mem_flatMap.1 hu
    obtain ⟨z, _, hz⟩ := he.mem hy
    exact E.one hz u hu
  have hkeep : ∀ b, b ∈ es.flatMap (·.2) → w'.heap[b]? = w.heap[b]? := fun b hb => hg.block b (hlt b (List.mem_append_right _ hb)) (fun hv => by
    rw [List.nodup_append] at hnd
    exact hnd.2.2 b (by rw [← hv]; simp) b hb rfl)
  have hkx : ∀ b, b ∈ fx → w'.heap[b]? = w.heap[b]? := fun b hb => hg.block b (hxlt b hb) (fun hv => hdis b hb (List.mem_append_left _ (by rw [← hv]; simp)))
  have hke : k ≤ es.length := by rw [he.1]; exact hk
  have hp : ((insertAt es k (cx, fx)).flatMap (·.2)).Perm (fx ++ es.flatMap (·.2)) := by
    have := (insertAt_perm es k (cx, fx)).flatMap_right (fun y => y.2)
    rwa [List.flatMap_cons] at this
  refine ⟨_, ⟨insertAt es k (cx, fx), ⟨by rw [insertAt_len, insertAt_len, he.1], fun i y z hy hz => ?_⟩, ?_, rfl⟩, ?_, ?_⟩
  · rcases insertAt_get hk hy with ⟨h1, h2⟩ | ⟨h1, h2⟩ | ⟨h1, h2⟩
    · rcases insertAt_get hke hz with ⟨g1, g2⟩ | ⟨g1, g2⟩ | ⟨g1, g2⟩
      · exact E.okeep (he.2 i y z h2 g2) fun b hb => hkeep b (List.mem_flatMap.2 ⟨z, List.mem_of_getElem? g2, hb⟩)
      · omega
      · omega
    · rcases insertAt_get hke hz with ⟨g1, g2⟩ | ⟨g1, g2⟩ | ⟨g1, g2⟩
      · omega
      · subst h2; subst g2
        exact E.okeep hx hkx
      · omega
    · rcases insertAt_get hke hz with ⟨g1, g2⟩ | ⟨g1, g2⟩ | ⟨g1, g2⟩
      · omega
      · omega
      · exact E.okeep (he.2 _ y z h2 g2) fun b hb => hkeep b (List.mem_flatMap.2 ⟨z, List.mem_of_getElem? g2, hb⟩)
  · rw [insertAt_len, insertAt_flat (·.1) E.size es k (cx, fx) he.len]
    exact ho'
  · have hvn : ∀ b, b ∈ v'.ownBlock.toList → b ∉ es.flatMap (·.2) ∧ b ∉ fx := fun b hb => by
      rcases hat with hat | hat
      · rw [hat] at hb
        rw [List.nodup_append] at hnd
        exact ⟨fun hm => hnd.2.2 b hb b hm rfl, fun hm => hdis b hm (List.mem_append_left _ hb)⟩
      · have hb' := hat b (by simpa using hb)
        exact ⟨fun hm => by have := hlt _ (List.mem_append_right _ hm); omega, fun hm => by have := hxlt _ hm; omega⟩
    have h1 : v'.ownBlock.toList.Nodup := by cases v'.ownBlock <;> simp
    rw [List.nodup_append] at hnd ⊢
    refine ⟨h1, ?_, fun a ha b hb hab => ?_⟩
    · rw [hp.nodup_iff, List.nodup_append]
      exact ⟨hxd, hnd.2.1, fun a ha b hb hab => by
        subst hab
        exact hdis a ha (List.mem_append_right _ hb)⟩
    · subst hab
      rcases List.mem_append.1 (hp.mem_iff.1 hb) with hb | hb
      · exact (hvn a ha).2 hb
      · exact (hvn a ha).1 hb
  · intro b hb
    rcases List.mem_append.1 hb with hb | hb
    · rcases hat with hat | hat
      · rw [hat] at hb
        exact .inl (List.mem_append_left _ hb)
      · exact .inr (.inr (hat b (by simpa using hb)))
    · rcases List.mem_append.1 (hp.mem_iff.1 hb) with hb | hb
      · exact .inr (.inl hb)
      · exact .inl (List.mem_append_right _ hb)
end
section
variable {F : List Nat} {w0 wr W2 : World} {ts : List Thing} {s : Thing} {i j : Nat} {α : Type} {E : Rep α} {e : TypeId} {xs : List α} {v : Value} {fp : List Nat} {x : α} {cx : List Value}
/-- slices.Insert, the new element a thing of the list -/
theorem SepF.insert (h : SepF F w0 wr ts) (i j : Nat) (hij : i ≠ j) {k : Nat} (hi : ts[i]? = some (tsl E e xs v fp)) (hk : k ≤ xs.length) (hj : ts[j]? = some s) (hb : Below wr.heap.size wr W2) (hx : ∀ W, s.holds W → E.own W x cx s.fp) :
    ∃ l, W2.ownsRow 0 e E.size v xs.length l ∧ (∀ u ∈ l, u.oneCell' = true) ∧ ∀ v' w1, w1.ownsRow 0 e E.size v' (xs.length + 1) (l.take (k * E.size) ++ cx ++ l.drop (k * E.size)) → W2.grownBy w1 v.ownBlock → (v'.ownBlock = v.ownBlock ∨ ∀ g, v'.ownBlock = some g → W2.heap.size ≤ g) →
      ∃ fp', SepF F w0 w1 ((ts.set j tnil).set i (tsl E e (insertAt xs k x) v' fp')) := by
  have h2 := h.step hb
  have ho : SlOwn E e W2 xs v fp := h2.at_ i hi
  have hs := hx _ (h2.at_ j hj)
  obtain ⟨l, k1, k0, k2⟩ := ho.insert hk hs (h2.ndat hi) (h2.ndat hj) (fun b hb hm => h2.apart hi hj hij b hm hb)
  refine ⟨l, k1, k0, fun v' w1 g1 g2 g3 => ?_⟩
  obtain ⟨fp', m1, m2, m3⟩ := k2 v' w1 g1 g2 g3
  refine ⟨fp', h2.upd2 hij hi hj ?_ m1 m2 (fun b hb => ?_)⟩
  · exact ⟨g2.os, g2.tape, g2.output, g2.size, fun k hk hn => g2.block k hk (fun hh => hn (List.mem_append_left _ (row_in ho hh.symm)))⟩
  · rcases m3 b hb with h | h | h
    · exact .inl h
    · exact .inr (.inl h)
    · exact .inr (.inr (by omega))
end
end Mm
end Go.Proofs.Ytnppcdiicnofpab

/-
  Plain totals: where one belongs among others that are in order, how one is put among them. No program in sight. No conditions.
-/
namespace Go.Proofs.Ytnppcdiicnofpab
namespace Pl
theorem cmp_lt : ∀ a b : List UInt8, decide (Lib.compareBytes a b < 0) = Op.bytesLess a b
  | [], [] => rfl
  | [], _ :: _ => rfl
  | _ :: _, [] => rfl
  | a :: x, b :: y => by
    rw [Lib.compareBytes, Op.bytesLess]
    by_cases h1 : a < b
    · simp [h1]
    · by_cases h2 : b < a
      · have h3 : (a == b) = false := by
          rw [beq_eq_false_iff_ne]
          intro e
          subst e
          exact UInt8.lt_irrefl _ h2
        simp [h1, h2, h3]
      · have h3 : a = b := by
          apply UInt8.toNat_inj.1
          have k1 : ¬ a.toNat < b.toNat := h1
          have k2 : ¬ b.toNat < a.toNat := h2
          omega
        subst h3
        simp [UInt8.lt_irrefl]
        have := cmp_lt x y
        simpa using this
theorem cmp_zero : ∀ a b : List UInt8, Lib.compareBytes a b = 0 ↔ a = b
  | [], [] => by simp [Lib.compareBytes]
  | [], _ :: _ => by simp [Lib.compareBytes]
  | _ :: _, [] => by simp [Lib.compareBytes]
  | a :: x, b :: y => by
    rw [Lib.compareBytes]
    by_cases h1 : a < b
    · rw [if_pos h1]
      constructor
      · intro h; omega
      · intro h; injection h with h _; subst h; exact absurd h1 (UInt8.lt_irrefl _)
    · rw [if_neg h1]
      by_cases h2 : b < a
      · rw [if_pos h2]
        constructor
        · intro h; omega
        · intro h; injection h with h _; subst h; exact absurd h2 (UInt8.lt_irrefl _)
      · have h3 : a = b := by
          apply UInt8.toNat_inj.1
          have k1 : ¬ a.toNat < b.toNat := h1
          have k2 : ¬ b.toNat < a.toNat := h2
          omega
        subst h3
        rw [if_neg h2, cmp_zero x y]
        simp
def txt (x : Total) : ByteArray := labelsText x.Labels
def TSort (l : List Total) : Prop := ∀ (i j : Nat) x y, i < j → l[i]? = some x → l[j]? = some y → lessB (txt x) (txt y) = true
def tpos (s : ByteArray) : List Total → Nat
  | [] => 0
  | x :: r => if lessB (txt x) s = true then tpos s r + 1 else 0
theorem TSort.tail {x : Total} {l : List Total} (h : TSort (x :: l)) : TSort l := fun i j a b hij ha hb => h (i + 1) (j + 1) a b (by omega) ha hb
theorem tpos_le (s : ByteArray) : ∀ l, tpos s l ≤ l.length
  | [] => Nat.le_refl _
  | x :: r => by
    unfold tpos
    have := tpos_le s r
    split <;> simp <;> omega
theorem tpos_lt (s : ByteArray) : ∀ (l : List Total) (i : Nat) (x : Total), i < tpos s l → l[i]? = some x → lessB (txt x) s = true
  | [], _, _, h, _ => by simp [tpos] at h
  | y :: r, i, x, h, hx => by
    unfold tpos at h
    split at h
    · rename_i hy
      cases i with
      | zero => simp at hx; subst hx; exact hy
      | succ i => exact tpos_lt s r i x (by omega) (by simpa using hx)
    · omega
theorem less_trans {a b c : ByteArray} (h : lessB a b = true) (k : lessB b c = true) : lessB a c = true := bless_trans h k
theorem less_irrefl (a : ByteArray) : lessB a a = false := bless_irrefl _
theorem tpos_ge (s : ByteArray) : ∀ (l : List Total), TSort l → ∀ (i : Nat) (x : Total), tpos s l ≤ i → l[i]? = some x → lessB (txt x) s = false
  | [], _, _, _, _, h => by simp at h
  | y :: r, hs, i, x, h, hx => by
    unfold tpos at h
    split at h
    · cases i with
      | zero => omega
      | succ i => exact tpos_ge s r hs.tail i x (by omega) (by simpa using hx)
    · rename_i hy
      cases i with
      | zero => simp at hx; subst hx; simpa using hy
      | succ i =>
        have h1 := hs 0 (i + 1) y x (by omega) rfl hx
        cases hc : lessB (txt x) s with
        | false => rfl
        | true => exact absurd (less_trans h1 hc) hy
theorem less_total {a b : ByteArray} (h : a ≠ b) : lessB a b = true ∨ lessB b a = true := bless_total (fun e => h (ba_inj e))
def tadd (o t : Total) : Total := ⟨o.Labels, o.Sum + t.Sum, o.Count + t.Count, if t.Least < o.Least then t.Least else o.Least, if o.Most < t.Most then t.Most else o.Most⟩
def tput (l : List Total) (t : Total) : List Total :=
  match l[tpos (txt t) l]? with
  | some o => if txt o = txt t then l.set (tpos (txt t) l) (tadd o t) else Mm.insertAt l (tpos (txt t) l) t
  | none => Mm.insertAt l (tpos (txt t) l) t
def tcomb (l : List Total) : List Total := l.foldl tput []
theorem tcomb_snoc (l : List Total) (t : Total) : tcomb (l ++ [t]) = tput (tcomb l) t := by unfold tcomb; rw [List.foldl_append]; rfl
theorem tput_hit {l : List Total} {t o : Total} (h : l[tpos (txt t) l]? = some o) (he : txt o = txt t) : tput l t = l.set (tpos (txt t) l) (tadd o t) := by
  unfold tput; rw [h]; exact if_pos he
theorem tput_miss {l : List Total} {t : Total} (h : ∀ o, l[tpos (txt t) l]? = some o → txt o ≠ txt t) : tput l t = Mm.insertAt l (tpos (txt t) l) t := by
  unfold tput
  split
  · rename_i o ho
    exact if_neg (h o ho)
  · rfl
/-- what a list of totals is while it is made, out of b: in order, its labels good, its numbers small -/
structure TOk (b : Nat) (l : List Total) : Prop where
  sort : TSort l
  lab : ∀ x, x ∈ l → labelsOk x.Labels = true
  sum : ∀ x, x ∈ l → -(b : Int) * 1000000000 ≤ x.Sum ∧ x.Sum ≤ (b : Int) * 1000000000
  cnt : ∀ x, x ∈ l → 1 ≤ x.Count ∧ x.Count ≤ (b : Int) * 1000
  least : ∀ x, x ∈ l → -1000000 ≤ x.Least ∧ x.Least ≤ x.Most ∧ x.Most ≤ 1000000
  len : l.length ≤ b
theorem TOk.nil (b : Nat) : TOk b [] := ⟨(fun i j x y _ h => by simp at h), (fun x h => by cases h), (fun x h => by cases h), (fun x h => by cases h), (fun x h => by cases h), Nat.zero_le _⟩
theorem isIn_if {x a b : Int} : isIn x a b = true ↔ a ≤ x ∧ x ≤ b := by
  unfold isIn
  simp only [Bool.and_eq_true, decide_eq_true_eq]
theorem totOk_iff {x : Total} : totOk x = true ↔ labelsOk x.Labels = true ∧ (1 ≤ x.Count ∧ x.Count ≤ 1000) ∧ (-1000000000 ≤ x.Sum ∧ x.Sum ≤ 1000000000) ∧ (-1000000 ≤ x.Least ∧ x.Least ≤ x.Most) ∧ x.Most ≤ 1000000 := by
  unfold totOk
  simp only [Bool.and_eq_true, isIn_if, decide_eq_true_eq, and_assoc]
theorem tadd_txt (o t : Total) : txt (tadd o t) = txt o := rfl
theorem TSort.set {l : List Total} (h : TSort l) {p : Nat} {o o' : Total} (hp : l[p]? = some o) (he : txt o' = txt o) : TSort (l.set p o') := by
  have get : ∀ i y, (l.set p o')[i]? = some y → ∃ z, l[i]? = some z ∧ txt z = txt y := fun i y hy => by
    by_cases hi : p = i
    · subst hi
      rw [List.getElem?_set_self (List.getElem?_eq_some_iff.1 hp).1] at hy
      injection hy with hy
      subst hy
      exact ⟨o, hp, he.symm⟩
    · rw [List.getElem?_set_ne hi] at hy
      exact ⟨y, hy, rfl⟩
  intro i j x y hij hx hy
  obtain ⟨x', hx', ex⟩ := get i x hx
  obtain ⟨y', hy', ey⟩ := get j y hy
  rw [← ex, ← ey]
  exact h i j x' y' hij hx' hy'
theorem TSort.insert {l : List Total} (h : TSort l) {t : Total} (hm : ∀ o, l[tpos (txt t) l]? = some o → txt o ≠ txt t) : TSort (Mm.insertAt l (tpos (txt t) l) t) := by
  have hk := tpos_le (txt t) l
  have hgt : ∀ (i : Nat) (x : Total), tpos (txt t) l ≤ i → l[i]? = some x → lessB (txt t) (txt x) = true := fun i x hi hx => by
    have hlt := (List.getElem?_eq_some_iff.1 hx).1
    obtain ⟨o, ho⟩ : ∃ o, l[tpos (txt t) l]? = some o := ⟨_, List.getElem?_eq_getElem (by omega)⟩
    have h1 := tpos_ge (txt t) l h _ o (Nat.le_refl _) ho
    have h2 : lessB (txt t) (txt o) = true := by
      rcases less_total (hm o ho) with h3 | h3
      · rw [h1] at h3; cases h3
      · exact h3
    by_cases he : tpos (txt t) l = i
    · rw [he, hx] at ho
      injection ho with ho
      rw [ho]; exact h2
    · exact less_trans h2 (h _ _ o x (by omega) ho hx)
  intro i j x y hij hx hy
  rcases Mm.insertAt_get hk hx with ⟨a1, a2⟩ | ⟨a1, a2⟩ | ⟨a1, a2⟩
  · rcases Mm.insertAt_get hk hy with ⟨b1, b2⟩ | ⟨b1, b2⟩ | ⟨b1, b2⟩
    · exact h i j x y hij a2 b2
    · rw [b2]; exact tpos_lt _ l i x a1 a2
    · exact less_trans (tpos_lt _ l i x a1 a2) (hgt _ y (by omega) b2)
  · rcases Mm.insertAt_get hk hy with ⟨b1, b2⟩ | ⟨b1, b2⟩ | ⟨b1, b2⟩
    · omega
    · omega
    · rw [a2]; exact hgt _ y (by omega) b2
  · rcases Mm.insertAt_get hk hy with ⟨b1, b2⟩ | ⟨b1, b2⟩ | ⟨b1, b2⟩
    · omega
    · omega
    · exact h (i - 1) (j - 1) x y (by omega) a2 b2
theorem tput_len (l : List Total) (t : Total) : (tput l t).length ≤ l.length + 1 := by
  unfold tput
  split
  · split
    · rw [List.length_set]; omega
    · rw [Mm.insertAt_len]; exact Nat.le_refl _
  · rw [Mm.insertAt_len]; exact Nat.le_refl _
theorem tput_sort {l : List Total} {t : Total} (h : TSort l) : TSort (tput l t) := by
  by_cases hh : ∃ o, l[tpos (txt t) l]? = some o ∧ txt o = txt t
  · obtain ⟨o, ho, he⟩ := hh
    rw [tput_hit ho he]
    exact h.set ho rfl
  · have hm : ∀ o, l[tpos (txt t) l]? = some o → txt o ≠ txt t := fun o ho he => hh ⟨o, ho, he⟩
    rw [tput_miss hm]
    exact h.insert hm
theorem tput_mem {l : List Total} {t x : Total} (hx : x ∈ tput l t) : x ∈ l ∨ x = t ∨ ∃ o, o ∈ l ∧ x = tadd o t := by
  have ins : x ∈ Mm.insertAt l (tpos (txt t) l) t → x ∈ l ∨ x = t ∨ ∃ o, o ∈ l ∧ x = tadd o t := fun hx => by
    rcases List.mem_cons.1 ((Mm.insertAt_perm l (tpos (txt t) l) t).mem_iff.1 hx) with hx | hx
    · exact .inr (.inl hx)
    · exact .inl hx
  unfold tput at hx
  split at hx
  · rename_i o ho
    split at hx
    · rcases List.mem_or_eq_of_mem_set hx with hx | hx
      · exact .inl hx
      · exact .inr (.inr ⟨o, List.mem_of_getElem? ho, hx⟩)
    · exact ins hx
  · exact ins hx
theorem TOk.put {b : Nat} {l : List Total} {t : Total} (h : TOk b l) (ht : totOk t = true) : TOk (b + 1) (tput l t) := by
  obtain ⟨t1, t2, t3, t4, t5⟩ := totOk_iff.1 ht
  refine ⟨tput_sort h.sort, fun x hx => ?_, fun x hx => ?_, fun x hx => ?_, fun x hx => ?_, ?_⟩
  · rcases tput_mem hx with hx | rfl | ⟨o, ho, rfl⟩
    · exact h.lab x hx
    · exact t1
    · exact h.lab o ho
  · rcases tput_mem hx with hx | rfl | ⟨o, ho, rfl⟩
    · have := h.sum x hx; constructor <;> omega
    · constructor <;> omega
    · have := h.sum o ho
      show _ ≤ o.Sum + t.Sum ∧ o.Sum + t.Sum ≤ _
      constructor <;> omega
  · rcases tput_mem hx with hx | rfl | ⟨o, ho, rfl⟩
    · have := h.cnt x hx; constructor <;> omega
    · constructor <;> omega
    · have := h.cnt o ho
      show _ ≤ o.Count + t.Count ∧ o.Count + t.Count ≤ _
      constructor <;> omega
  · rcases tput_mem hx with hx | rfl | ⟨o, ho, rfl⟩
    · exact h.least x hx
    · exact ⟨t4.1, t4.2, t5⟩
    · have := h.least o ho
      show -1000000 ≤ (if t.Least < o.Least then t.Least else o.Least) ∧ (if t.Least < o.Least then t.Least else o.Least) ≤ (if o.Most < t.Most then t.Most else o.Most) ∧ (if o.Most < t.Most then t.Most else o.Most) ≤ 1000000
      split <;> split <;> omega
  · have := tput_len l t
    have := h.len
    omega
theorem TOk.comb {l : List Total} (hl : ∀ x, x ∈ l → totOk x = true) : ∀ k, k ≤ l.length → TOk k (tcomb (l.take k))
  | 0, _ => TOk.nil 0
  | k + 1, hk => by
    rw [List.take_succ_eq_append_getElem (by omega), tcomb_snoc]
    exact (TOk.comb hl k (by omega)).put (hl _ (List.getElem_mem _))
theorem tcomb_next {l : List Total} {k : Nat} {x : Total} (h : l[k]? = some x) : tcomb (l.take (k + 1)) = tput (tcomb (l.take k)) x := by
  obtain ⟨hk, hx⟩ := List.getElem?_eq_some_iff.1 h
  rw [List.take_succ_eq_append_getElem hk, hx, tcomb_snoc]
def tgood (l : List Total) : List Total × Bool := if totalsOk l = true then (l, true) else ([], false)
def tmerge (a b : List Total) : List Total × Bool := if (totalsOk a && totalsOk b) = true then tgood (tcomb (a ++ b)) else ([], false)
end Pl
end Go.Proofs.Ytnppcdiicnofpab

/-
  Contracts of the program's and the reference's functions on words and hashes. No conditions.
-/

namespace Go.Proofs.Ytnppcdiicnofpab
open Go.RowKit

def Pl.ret2 (x : Int × Bool) : Ending := .returned (.tuple #[.int .i64 x.1, .bool x.2])
theorem ret_int {k : IntKind} {a b : Int} (h : a = b) : Ending.returned (.int k a) = .returned (.int k b) := by rw [h]
theorem ret_bool {a b : Bool} (h : a = b) : Ending.returned (.bool a) = .returned (.bool b) := by rw [h]

theorem within_c (n a b : Int) (w : World) :
    Calls Try.prog 33 #[.int .i64 n, .int .i64 a, .int .i64 b] w fun e w' => e = .returned (.bool (Pl.isIn n a b)) ∧ w = w' := by
  unfold Pl.isIn
  by_cases h1 : a ≤ n
  · by_cases h2 : n ≤ b
    · go_enter Try.func33, Try.ntmps33
      go_wp2
      go_ret
      exact ⟨ret_bool (by simp [*]), rfl⟩
    · go_enter Try.func33, Try.ntmps33
      go_wp2
      go_ret
      exact ⟨ret_bool (by simp [*]), rfl⟩
  · go_enter Try.func33, Try.ntmps33
    go_wp2
    go_ret
    exact ⟨ret_bool (by simp; omega), rfl⟩
theorem l1In_c (n a b : Int) (w : World) :
    Calls Try.prog 37 #[.int .i64 n, .int .i64 a, .int .i64 b] w fun e w' => e = .returned (.bool (Pl.isIn n a b)) ∧ w = w' := by
  unfold Pl.isIn
  by_cases h1 : a ≤ n
  · by_cases h2 : n ≤ b
    · go_enter Try.func37, Try.ntmps37
      go_wp2
      go_ret
      exact ⟨ret_bool (by simp [*]), rfl⟩
    · go_enter Try.func37, Try.ntmps37
      go_wp2
      go_ret
      exact ⟨ret_bool (by simp [*]), rfl⟩
  · go_enter Try.func37, Try.ntmps37
    go_wp2
    go_ret
    exact ⟨ret_bool (by simp; omega), rfl⟩
set_option maxRecDepth 100000 in
set_option maxHeartbeats 1000000 in
theorem isWord_c (s : ByteArray) (d : Bool) (w : World) (hs : s.size ≤ maxLen) :
    Calls Try.prog 71 #[.string s, .bool d] w fun e w' => e = .returned (.bool (Pl.word d s.data.toList)) ∧ w = w' := by
  unfold maxLen at hs
  go_enter Try.func71, Try.ntmps71
  go_wp2
  go_loop [5, 8] (fun _ i => ∃ k : Nat, k ≤ s.size ∧ i = .int .i64 k ∧ ∀ c ∈ s.data.toList.take k, Pl.wbyte d c = true) (fun _ i => s.size - (intOf i).toNat)
  case atStart => exact ⟨0, Nat.zero_le _, rfl, by simp⟩
  case round =>
    obtain ⟨k, hk, rfl, hall⟩ := hrel
    by_cases hlt : k < s.size
    · have hts : s.data.toList.take (k + 1) = s.data.toList.take k ++ [s[k]] := Pl.take_snoc s.data.toList k hlt
      have HS : Hid (s.data.toList.take (k + 1) = s.data.toList.take k ++ [s[k]]) := hts
      have HA : Hid (∀ c ∈ s.data.toList.take k, Pl.wbyte d c = true) := hall
      clear hts hall
      have hb : (s[k].toNat : Int) < 256 := by have := s[k].toNat_lt; omega
      cases d
      all_goals go_wp2
      all_goals first
        | (go_ret; exact ⟨ret_bool (Pl.word_bad hlt (Pl.wb_no (by omega) (.inl rfl))).symm, rfl⟩)
        | (go_ret; exact ⟨ret_bool (Pl.word_bad hlt (Pl.wb_no (by omega) (.inr (by omega)))).symm, rfl⟩)
        | (go_round
           case rel => exact ⟨k + 1, by omega, by go_num, Pl.all_snoc HS.out HA.out (by first | exact Pl.wb_letter (by omega) | exact Pl.wb_digit (by omega))⟩
           case measure => simp [intOf]; omega)
    · have HA : Hid (∀ c ∈ s.data.toList.take k, Pl.wbyte d c = true) := hall
      clear hall
      go_wp2_with (go_at_call 33; refine (within_c _ _ _ _).mono ?_; rintro e w' ⟨rfl, rfl⟩)
      go_ret
      exact ⟨ret_bool (by rw [Pl.word_end (by simp; omega) HA.out]; simp), rfl⟩
set_option maxRecDepth 100000 in
set_option maxHeartbeats 1000000 in
theorem l3Name_c (s : ByteArray) (d : Bool) (w : World) (hs : s.size ≤ maxLen) :
    Calls Try.prog 59 #[.string s, .bool d] w fun e w' => e = .returned (.bool (Pl.word d s.data.toList)) ∧ w = w' := by
  unfold maxLen at hs
  go_enter Try.func59, Try.ntmps59
  go_wp2
  go_loop [5] (fun i => ∃ k : Nat, k ≤ s.size ∧ i = .int .i64 k ∧ ∀ c ∈ s.data.toList.take k, Pl.wbyte d c = true) (fun i => s.size - (intOf i).toNat)
  case atStart => exact ⟨0, Nat.zero_le _, rfl, by simp⟩
  case round =>
    obtain ⟨k, hk, rfl, hall⟩ := hrel
    by_cases hlt : k < s.size
    · have hts : s.data.toList.take (k + 1) = s.data.toList.take k ++ [s[k]] := Pl.take_snoc s.data.toList k hlt
      have HS : Hid (s.data.toList.take (k + 1) = s.data.toList.take k ++ [s[k]]) := hts
      have HA : Hid (∀ c ∈ s.data.toList.take k, Pl.wbyte d c = true) := hall
      clear hts hall
      have hb : (s[k].toNat : Int) < 256 := by have := s[k].toNat_lt; omega
      cases d
      all_goals go_wp2
      all_goals (try simp only [Bool.not_eq_true', Bool.not_eq_false', decide_eq_true_eq, decide_eq_false_iff_not] at *)
      all_goals first
        | (exfalso; omega)
        | (go_ret; exact ⟨ret_bool (Pl.word_bad hlt (Pl.wb_no (by omega) (.inl rfl))).symm, rfl⟩)
        | (go_ret; exact ⟨ret_bool (Pl.word_bad hlt (Pl.wb_no (by omega) (.inr (by omega)))).symm, rfl⟩)
        | (go_round
           case rel => exact ⟨k + 1, by omega, by go_num, Pl.all_snoc HS.out HA.out (by first | exact Pl.wb_letter (by omega) | exact Pl.wb_digit (by omega))⟩
           case measure => simp [intOf]; omega)
    · have HA : Hid (∀ c ∈ s.data.toList.take k, Pl.wbyte d c = true) := hall
      clear hall
      go_wp2_with (go_at_call 37; refine (l1In_c _ _ _ _).mono ?_; rintro e w' ⟨rfl, rfl⟩)
      go_ret
      exact ⟨ret_bool (by rw [Pl.word_end (by simp; omega) HA.out]; simp), rfl⟩
end Go.Proofs.Ytnppcdiicnofpab

/-
  The library's strings.Join, where it lies in this program. No conditions.
-/
namespace Go.Proofs.Ytnppcdiicnofpab
def ljF : Nat → Nat
  | 156 => 64
  | 165 => 72
  | 166 => 73
  | 169 => 74
  | 240 => 78
  | 241 => 79
  | 276 => 82
  | 277 => 83
  | _ => 0
def ljT : Nat → Nat
  | 0 => 0
  | 3 => 3
  | 4 => 4
  | 5 => 5
  | 9 => 9
  | 20 => 20
  | 31 => 24
  | 37 => 22
  | 70 => 101
  | 72 => 103
  | 75 => 106
  | 76 => 107
  | 80 => 109
  | 127 => 110
  | 164 => 112
  | _ => 0
def lj : Shelf.Ren := ⟨ljF, ljT, fun x => x⟩
set_option maxRecDepth 1000000 in
theorem ljJoin : Lays.n156 Try.prog lj where
  mixed := by kernel_rfl
  f156 := by kernel_rfl
  f165 := by kernel_rfl
  f166 := by kernel_rfl
  f169 := by kernel_rfl
  f240 := by kernel_rfl
  f241 := by kernel_rfl
  f276 := by kernel_rfl
  f277 := by kernel_rfl
  t0 := by kernel_rfl
  a0 := fun _ => rfl
  z0 := fun _ => rfl
  v0 := fun _ => rfl
  t3 := by kernel_rfl
  a3 := fun _ => rfl
  z3 := fun _ => rfl
  v3 := fun _ => rfl
  t4 := by kernel_rfl
  a4 := fun _ => rfl
  z4 := fun _ => rfl
  v4 := fun _ => rfl
  t9 := by kernel_rfl
  a9 := fun _ => rfl
  z9 := fun _ => rfl
  v9 := fun _ => rfl
  t20 := by kernel_rfl
  a20 := fun _ => rfl
  z20 := fun _ => rfl
  v20 := fun _ => rfl
  t31 := by kernel_rfl
  a31 := fun _ => rfl
  z31 := fun _ => rfl
  v31 := fun _ => rfl
  t37 := by kernel_rfl
  a37 := fun _ => rfl
  z37 := fun _ => rfl
  v37 := fun _ => rfl
  t70 := by kernel_rfl
  a70 := fun _ => rfl
  z70 := fun _ => rfl
  v70 := fun _ => rfl
  t72 := by kernel_rfl
  a72 := fun _ => rfl
  z72 := fun _ => rfl
  v72 := fun _ => rfl
  t75 := by kernel_rfl
  a75 := fun _ => rfl
  z75 := fun _ => rfl
  v75 := fun _ => rfl
  t76 := by kernel_rfl
  a76 := fun _ => rfl
  z76 := fun _ => rfl
  v76 := fun _ => rfl
  t127 := by kernel_rfl
  a127 := fun _ => rfl
  z127 := fun _ => rfl
  v127 := fun _ => rfl
  t164 := by kernel_rfl
  a164 := fun _ => rfl
  z164 := fun _ => rfl
  v164 := fun _ => rfl
set_option maxRecDepth 1000000 in
theorem ljX : Builder.Extra Try.prog lj where
  sizeBuilder := by kernel_rfl
  liesBuilder := by kernel_rfl
  t5 := by kernel_rfl
  a5 := fun _ => rfl
  z5 := fun _ => rfl
  v5 := fun _ => rfl
  infoByte := by kernel_rfl
  cellsByte := by kernel_rfl
  sizeByte := by kernel_rfl
  neB5 := by decide
end Go.Proofs.Ytnppcdiicnofpab

/-
  What a marking makes of the program's types. No program in sight. No conditions.
-/
namespace Go.Proofs.Ytnppcdiicnofpab
namespace Pl
def mkText (k : Int) : ByteArray := ⟨(109 :: digs k.toNat k.toNat []).toArray⟩
def mkInt (_ : Int) (k : Int) : Int := k
def mkBool (_ : Bool) (k : Int) : Bool := k % 3 == 0
def mkStr (_ : ByteArray) (k : Int) : ByteArray := mkText k
def cnt1 {α : Type} (_ : α) : Int := 1
theorem cnt1_nn {α : Type} (x : α) : 0 ≤ cnt1 x := by unfold cnt1; omega
def mkSample (_ : Sample) (k : Int) : Sample := ⟨k, (k + 1)⟩
def cntSample (_ : Sample) : Int := 1 + 1
theorem cntSample_nn (x : Sample) : 0 ≤ cntSample x := by
  unfold cntSample; omega
def mkWindow (_ : Window) (k : Int) : Window := ⟨k, (k + 1), ((k + 1) + 1), (((k + 1) + 1) + 1), ((((k + 1) + 1) + 1) + 1)⟩
def cntWindow (_ : Window) : Int := 1 + 1 + 1 + 1 + 1
theorem cntWindow_nn (x : Window) : 0 ≤ cntWindow x := by
  unfold cntWindow; omega
def mkTold (_ : Told) (k : Int) : Told := ⟨k, (k + 1), Pl.mkText (((k + 1) + 1))⟩
def cntTold (_ : Told) : Int := 1 + 1 + 1
theorem cntTold_nn (x : Told) : 0 ≤ cntTold x := by
  unfold cntTold; omega
def mkNote (_ : Note) (k : Int) : Note := ⟨(k % 3 == 0), ⟨(k + 1), ((k + 1) + 1), Pl.mkText ((((k + 1) + 1) + 1))⟩⟩
def cntNote (_ : Note) : Int := 1 + 1 + 1 + 1
theorem cntNote_nn (x : Note) : 0 ≤ cntNote x := by
  unfold cntNote; omega
def mkTellStep (_ : TellStep) (k : Int) : TellStep := ⟨k, (k + 1), Pl.mkText (((k + 1) + 1))⟩
def cntTellStep (_ : TellStep) : Int := 1 + 1 + 1
theorem cntTellStep_nn (x : TellStep) : 0 ≤ cntTellStep x := by
  unfold cntTellStep; omega
def mkSnapStep (_ : SnapStep) (k : Int) : SnapStep := ⟨k, (k + 1), ((k + 1) + 1), (((k + 1) + 1) + 1)⟩
def cntSnapStep (_ : SnapStep) : Int := 1 + 1 + 1 + 1
theorem cntSnapStep_nn (x : SnapStep) : 0 ≤ cntSnapStep x := by
  unfold cntSnapStep; omega
def mkSay (_ : Say) (k : Int) : Say := ⟨Pl.mkText (k), (k + 1), ((k + 1) + 1)⟩
def cntSay (_ : Say) : Int := 1 + 1 + 1
theorem cntSay_nn (x : Say) : 0 ≤ cntSay x := by
  unfold cntSay; omega
def mkLabel (_ : Label) (k : Int) : Label := ⟨Pl.mkText (k), Pl.mkText ((k + 1))⟩
def cntLabel (_ : Label) : Int := 1 + 1
theorem cntLabel_nn (x : Label) : 0 ≤ cntLabel x := by
  unfold cntLabel; omega
def mkEntry (_ : Entry) (k : Int) : Entry := ⟨k, Pl.mkText ((k + 1))⟩
def cntEntry (_ : Entry) : Int := 1 + 1
theorem cntEntry_nn (x : Entry) : 0 ≤ cntEntry x := by
  unfold cntEntry; omega
def mkStart (_ : Start) (k : Int) : Start := ⟨k, (k + 1)⟩
def cntStart (_ : Start) : Int := 1 + 1
theorem cntStart_nn (x : Start) : 0 ≤ cntStart x := by
  unfold cntStart; omega
def mkLetter (_ : Letter) (k : Int) : Letter := ⟨k, (k + 1), ((k + 1) + 1), ((((k + 1) + 1) + 1) % 3 == 0), ((((k + 1) + 1) + 1) + 1)⟩
def cntLetter (_ : Letter) : Int := 1 + 1 + 1 + 1 + 1
theorem cntLetter_nn (x : Letter) : 0 ≤ cntLetter x := by
  unfold cntLetter; omega
def mkVoteStep (_ : VoteStep) (k : Int) : VoteStep := ⟨k, (k + 1)⟩
def cntVoteStep (_ : VoteStep) : Int := 1 + 1
theorem cntVoteStep_nn (x : VoteStep) : 0 ≤ cntVoteStep x := by
  unfold cntVoteStep; omega
def mkReplStep (_ : ReplStep) (k : Int) : ReplStep := ⟨k, (k + 1), Pl.mkText (((k + 1) + 1))⟩
def cntReplStep (_ : ReplStep) : Int := 1 + 1 + 1
theorem cntReplStep_nn (x : ReplStep) : 0 ≤ cntReplStep x := by
  unfold cntReplStep; omega
def mkHouseStep (_ : HouseStep) (k : Int) : HouseStep := ⟨k, (k + 1), ⟨Pl.mkText (((k + 1) + 1)), (((k + 1) + 1) + 1), ((((k + 1) + 1) + 1) + 1)⟩⟩
def cntHouseStep (_ : HouseStep) : Int := 1 + 1 + 1 + 1 + 1
theorem cntHouseStep_nn (x : HouseStep) : 0 ≤ cntHouseStep x := by
  unfold cntHouseStep; omega
def mkToken (_ : Token) (k : Int) : Token := ⟨k, (k + 1)⟩
def cntToken (_ : Token) : Int := 1 + 1
theorem cntToken_nn (x : Token) : 0 ≤ cntToken x := by
  unfold cntToken; omega
def mkRow (x : Row) (k : Int) : Row := ⟨Pl.mkText (k), (Mm.mkL Pl.mkSample Pl.cntSample) x.Samples (k + 1)⟩
def cntRow (x : Row) : Int := 1 + (Mm.cntL Pl.cntSample) x.Samples
theorem cntRow_nn (x : Row) : 0 ≤ cntRow x := by
  have h1 := Mm.cntL_nn (cnt := cntSample) (cntSample_nn) x.Samples
  unfold cntRow; omega
def mkHead (x : Head) (k : Int) : Head := ⟨(Mm.mkL Pl.mkRow Pl.cntRow) x.Rows k, (k + (Mm.cntL Pl.cntRow) x.Rows)⟩
def cntHead (x : Head) : Int := (Mm.cntL Pl.cntRow) x.Rows + 1
theorem cntHead_nn (x : Head) : 0 ≤ cntHead x := by
  have h0 := Mm.cntL_nn (cnt := cntRow) (cntRow_nn) x.Rows
  unfold cntHead; omega
def mkItem (x : Item) (k : Int) : Item := ⟨(Mm.mkL Pl.mkLabel Pl.cntLabel) x.Labels k, (k + (Mm.cntL Pl.cntLabel) x.Labels)⟩
def cntItem (x : Item) : Int := (Mm.cntL Pl.cntLabel) x.Labels + 1
theorem cntItem_nn (x : Item) : 0 ≤ cntItem x := by
  have h0 := Mm.cntL_nn (cnt := cntLabel) (cntLabel_nn) x.Labels
  unfold cntItem; omega
def mkTotal (x : Total) (k : Int) : Total := ⟨(Mm.mkL Pl.mkLabel Pl.cntLabel) x.Labels k, (k + (Mm.cntL Pl.cntLabel) x.Labels), ((k + (Mm.cntL Pl.cntLabel) x.Labels) + 1), (((k + (Mm.cntL Pl.cntLabel) x.Labels) + 1) + 1), ((((k + (Mm.cntL Pl.cntLabel) x.Labels) + 1) + 1) + 1)⟩
def cntTotal (x : Total) : Int := (Mm.cntL Pl.cntLabel) x.Labels + 1 + 1 + 1 + 1
theorem cntTotal_nn (x : Total) : 0 ≤ cntTotal x := by
  have h0 := Mm.cntL_nn (cnt := cntLabel) (cntLabel_nn) x.Labels
  unfold cntTotal; omega
def mkSketch (x : Sketch) (k : Int) : Sketch := ⟨(Mm.mkL (Mm.mkL Pl.mkInt Pl.cnt1) (Mm.cntL Pl.cnt1)) x.Rows k, (k + (Mm.cntL (Mm.cntL Pl.cnt1)) x.Rows)⟩
def cntSketch (x : Sketch) : Int := (Mm.cntL (Mm.cntL Pl.cnt1)) x.Rows + 1
theorem cntSketch_nn (x : Sketch) : 0 ≤ cntSketch x := by
  have h0 := Mm.cntL_nn (cnt := (Mm.cntL cnt1)) (Mm.cntL_nn (cnt := cnt1) (cnt1_nn)) x.Rows
  unfold cntSketch; omega
def mkHeavy (x : Heavy) (k : Int) : Heavy := ⟨(Mm.mkL Pl.mkStr Pl.cnt1) x.Names k, (Mm.mkL Pl.mkInt Pl.cnt1) x.Counts (k + (Mm.cntL Pl.cnt1) x.Names), ((k + (Mm.cntL Pl.cnt1) x.Names) + (Mm.cntL Pl.cnt1) x.Counts), (((k + (Mm.cntL Pl.cnt1) x.Names) + (Mm.cntL Pl.cnt1) x.Counts) + 1)⟩
def cntHeavy (x : Heavy) : Int := (Mm.cntL Pl.cnt1) x.Names + (Mm.cntL Pl.cnt1) x.Counts + 1 + 1
theorem cntHeavy_nn (x : Heavy) : 0 ≤ cntHeavy x := by
  have h0 := Mm.cntL_nn (cnt := cnt1) (cnt1_nn) x.Names
  have h1 := Mm.cntL_nn (cnt := cnt1) (cnt1_nn) x.Counts
  unfold cntHeavy; omega
def mkPiece (x : Piece) (k : Int) : Piece := ⟨k, Pl.mkText ((k + 1)), (Mm.mkL Pl.mkInt Pl.cnt1) x.Index ((k + 1) + 1)⟩
def cntPiece (x : Piece) : Int := 1 + 1 + (Mm.cntL Pl.cnt1) x.Index
theorem cntPiece_nn (x : Piece) : 0 ≤ cntPiece x := by
  have h2 := Mm.cntL_nn (cnt := cnt1) (cnt1_nn) x.Index
  unfold cntPiece; omega
def mkLog (x : Log) (k : Int) : Log := ⟨(Mm.mkL Pl.mkPiece Pl.cntPiece) x.Pieces k, (k + (Mm.cntL Pl.cntPiece) x.Pieces)⟩
def cntLog (x : Log) : Int := (Mm.cntL Pl.cntPiece) x.Pieces + 1
theorem cntLog_nn (x : Log) : 0 ≤ cntLog x := by
  have h0 := Mm.cntL_nn (cnt := cntPiece) (cntPiece_nn) x.Pieces
  unfold cntLog; omega
def mkHouse (x : House) (k : Int) : House := ⟨(Mm.mkL Pl.mkLog Pl.cntLog) x.Logs k, (Mm.mkL Pl.mkHead Pl.cntHead) x.Heads (k + (Mm.cntL Pl.cntLog) x.Logs), (Mm.mkL Pl.mkHead Pl.cntHead) x.Kept ((k + (Mm.cntL Pl.cntLog) x.Logs) + (Mm.cntL Pl.cntHead) x.Heads)⟩
def cntHouse (x : House) : Int := (Mm.cntL Pl.cntLog) x.Logs + (Mm.cntL Pl.cntHead) x.Heads + (Mm.cntL Pl.cntHead) x.Kept
theorem cntHouse_nn (x : House) : 0 ≤ cntHouse x := by
  have h0 := Mm.cntL_nn (cnt := cntLog) (cntLog_nn) x.Logs
  have h1 := Mm.cntL_nn (cnt := cntHead) (cntHead_nn) x.Heads
  have h2 := Mm.cntL_nn (cnt := cntHead) (cntHead_nn) x.Kept
  unfold cntHouse; omega
def mkTell (x : Tell) (k : Int) : Tell := ⟨(Mm.mkL (Mm.mkL Pl.mkStr Pl.cnt1) (Mm.cntL Pl.cnt1)) x.Texts k, (Mm.mkL Pl.mkInt Pl.cnt1) x.Heard (k + (Mm.cntL (Mm.cntL Pl.cnt1)) x.Texts), (Mm.mkL Pl.mkNote Pl.cntNote) x.Line ((k + (Mm.cntL (Mm.cntL Pl.cnt1)) x.Texts) + (Mm.cntL Pl.cnt1) x.Heard), (Mm.mkL Pl.mkTold Pl.cntTold) x.Log (((k + (Mm.cntL (Mm.cntL Pl.cnt1)) x.Texts) + (Mm.cntL Pl.cnt1) x.Heard) + (Mm.cntL Pl.cntNote) x.Line), (Mm.mkL Pl.mkInt Pl.cnt1) x.Next ((((k + (Mm.cntL (Mm.cntL Pl.cnt1)) x.Texts) + (Mm.cntL Pl.cnt1) x.Heard) + (Mm.cntL Pl.cntNote) x.Line) + (Mm.cntL Pl.cntTold) x.Log)⟩
def cntTell (x : Tell) : Int := (Mm.cntL (Mm.cntL Pl.cnt1)) x.Texts + (Mm.cntL Pl.cnt1) x.Heard + (Mm.cntL Pl.cntNote) x.Line + (Mm.cntL Pl.cntTold) x.Log + (Mm.cntL Pl.cnt1) x.Next
theorem cntTell_nn (x : Tell) : 0 ≤ cntTell x := by
  have h0 := Mm.cntL_nn (cnt := (Mm.cntL cnt1)) (Mm.cntL_nn (cnt := cnt1) (cnt1_nn)) x.Texts
  have h1 := Mm.cntL_nn (cnt := cnt1) (cnt1_nn) x.Heard
  have h2 := Mm.cntL_nn (cnt := cntNote) (cntNote_nn) x.Line
  have h3 := Mm.cntL_nn (cnt := cntTold) (cntTold_nn) x.Log
  have h4 := Mm.cntL_nn (cnt := cnt1) (cnt1_nn) x.Next
  unfold cntTell; omega
def mkBank (x : Bank) (k : Int) : Bank := ⟨(Mm.mkL Pl.mkInt Pl.cnt1) x.Coins k, (Mm.mkL (Mm.mkL Pl.mkInt Pl.cnt1) (Mm.cntL Pl.cnt1)) x.Ways (k + (Mm.cntL Pl.cnt1) x.Coins), (Mm.mkL Pl.mkInt Pl.cnt1) x.Kept ((k + (Mm.cntL Pl.cnt1) x.Coins) + (Mm.cntL (Mm.cntL Pl.cnt1)) x.Ways), (Mm.mkL (Mm.mkL Pl.mkBool Pl.cnt1) (Mm.cntL Pl.cnt1)) x.Heard (((k + (Mm.cntL Pl.cnt1) x.Coins) + (Mm.cntL (Mm.cntL Pl.cnt1)) x.Ways) + (Mm.cntL Pl.cnt1) x.Kept), (Mm.mkL (Mm.mkL Pl.mkInt Pl.cnt1) (Mm.cntL Pl.cnt1)) x.Found ((((k + (Mm.cntL Pl.cnt1) x.Coins) + (Mm.cntL (Mm.cntL Pl.cnt1)) x.Ways) + (Mm.cntL Pl.cnt1) x.Kept) + (Mm.cntL (Mm.cntL Pl.cnt1)) x.Heard)⟩
def cntBank (x : Bank) : Int := (Mm.cntL Pl.cnt1) x.Coins + (Mm.cntL (Mm.cntL Pl.cnt1)) x.Ways + (Mm.cntL Pl.cnt1) x.Kept + (Mm.cntL (Mm.cntL Pl.cnt1)) x.Heard + (Mm.cntL (Mm.cntL Pl.cnt1)) x.Found
theorem cntBank_nn (x : Bank) : 0 ≤ cntBank x := by
  have h0 := Mm.cntL_nn (cnt := cnt1) (cnt1_nn) x.Coins
  have h1 := Mm.cntL_nn (cnt := (Mm.cntL cnt1)) (Mm.cntL_nn (cnt := cnt1) (cnt1_nn)) x.Ways
  have h2 := Mm.cntL_nn (cnt := cnt1) (cnt1_nn) x.Kept
  have h3 := Mm.cntL_nn (cnt := (Mm.cntL cnt1)) (Mm.cntL_nn (cnt := cnt1) (cnt1_nn)) x.Heard
  have h4 := Mm.cntL_nn (cnt := (Mm.cntL cnt1)) (Mm.cntL_nn (cnt := cnt1) (cnt1_nn)) x.Found
  unfold cntBank; omega
def mkNode (x : Node) (k : Int) : Node := ⟨k, (k + 1), ((k + 1) + 1), (Mm.mkL Pl.mkInt Pl.cnt1) x.Heard (((k + 1) + 1) + 1), ((((k + 1) + 1) + 1) + (Mm.cntL Pl.cnt1) x.Heard)⟩
def cntNode (x : Node) : Int := 1 + 1 + 1 + (Mm.cntL Pl.cnt1) x.Heard + 1
theorem cntNode_nn (x : Node) : 0 ≤ cntNode x := by
  have h3 := Mm.cntL_nn (cnt := cnt1) (cnt1_nn) x.Heard
  unfold cntNode; omega
def mkPoll (x : Poll) (k : Int) : Poll := ⟨(Mm.mkL Pl.mkNode Pl.cntNode) x.Nodes k, (Mm.mkL Pl.mkLetter Pl.cntLetter) x.Letters (k + (Mm.cntL Pl.cntNode) x.Nodes), (Mm.mkL (Mm.mkL Pl.mkInt Pl.cnt1) (Mm.cntL Pl.cnt1)) x.Leaders ((k + (Mm.cntL Pl.cntNode) x.Nodes) + (Mm.cntL Pl.cntLetter) x.Letters)⟩
def cntPoll (x : Poll) : Int := (Mm.cntL Pl.cntNode) x.Nodes + (Mm.cntL Pl.cntLetter) x.Letters + (Mm.cntL (Mm.cntL Pl.cnt1)) x.Leaders
theorem cntPoll_nn (x : Poll) : 0 ≤ cntPoll x := by
  have h0 := Mm.cntL_nn (cnt := cntNode) (cntNode_nn) x.Nodes
  have h1 := Mm.cntL_nn (cnt := cntLetter) (cntLetter_nn) x.Letters
  have h2 := Mm.cntL_nn (cnt := (Mm.cntL cnt1)) (Mm.cntL_nn (cnt := cnt1) (cnt1_nn)) x.Leaders
  unfold cntPoll; omega
def mkRepl (x : Repl) (k : Int) : Repl := ⟨(Mm.mkL (Mm.mkL Pl.mkEntry Pl.cntEntry) (Mm.cntL Pl.cntEntry)) x.Logs k, (Mm.mkL Pl.mkBool Pl.cnt1) x.Down (k + (Mm.cntL (Mm.cntL Pl.cntEntry)) x.Logs), ((k + (Mm.cntL (Mm.cntL Pl.cntEntry)) x.Logs) + (Mm.cntL Pl.cnt1) x.Down), (((k + (Mm.cntL (Mm.cntL Pl.cntEntry)) x.Logs) + (Mm.cntL Pl.cnt1) x.Down) + 1), (Mm.mkL Pl.mkInt Pl.cnt1) x.InSync ((((k + (Mm.cntL (Mm.cntL Pl.cntEntry)) x.Logs) + (Mm.cntL Pl.cnt1) x.Down) + 1) + 1), (Mm.mkL Pl.mkEntry Pl.cntEntry) x.Certain (((((k + (Mm.cntL (Mm.cntL Pl.cntEntry)) x.Logs) + (Mm.cntL Pl.cnt1) x.Down) + 1) + 1) + (Mm.cntL Pl.cnt1) x.InSync)⟩
def cntRepl (x : Repl) : Int := (Mm.cntL (Mm.cntL Pl.cntEntry)) x.Logs + (Mm.cntL Pl.cnt1) x.Down + 1 + 1 + (Mm.cntL Pl.cnt1) x.InSync + (Mm.cntL Pl.cntEntry) x.Certain
theorem cntRepl_nn (x : Repl) : 0 ≤ cntRepl x := by
  have h0 := Mm.cntL_nn (cnt := (Mm.cntL cntEntry)) (Mm.cntL_nn (cnt := cntEntry) (cntEntry_nn)) x.Logs
  have h1 := Mm.cntL_nn (cnt := cnt1) (cnt1_nn) x.Down
  have h4 := Mm.cntL_nn (cnt := cnt1) (cnt1_nn) x.InSync
  have h5 := Mm.cntL_nn (cnt := cntEntry) (cntEntry_nn) x.Certain
  unfold cntRepl; omega
def topSketch (x : Sketch) (k : Int) : Sketch := ⟨(Mm.mkL (Mm.mkL Pl.mkInt Pl.cnt1) (Mm.cntL Pl.cnt1)) x.Rows k, x.Total⟩
def ctopSketch (x : Sketch) : Int := (Mm.cntL (Mm.cntL Pl.cnt1)) x.Rows
def topHeavy (x : Heavy) (k : Int) : Heavy := ⟨(Mm.mkL Pl.mkStr Pl.cnt1) x.Names k, (Mm.mkL Pl.mkInt Pl.cnt1) x.Counts (k + (Mm.cntL Pl.cnt1) x.Names), x.Gone, x.Total⟩
def ctopHeavy (x : Heavy) : Int := (Mm.cntL Pl.cnt1) x.Names + (Mm.cntL Pl.cnt1) x.Counts
def topHead (x : Head) (k : Int) : Head := ⟨(Mm.mkL Pl.mkRow Pl.cntRow) x.Rows k, x.Offset⟩
def ctopHead (x : Head) : Int := (Mm.cntL Pl.cntRow) x.Rows
def topLog (x : Log) (k : Int) : Log := ⟨(Mm.mkL Pl.mkPiece Pl.cntPiece) x.Pieces k, x.Begin⟩
def ctopLog (x : Log) : Int := (Mm.cntL Pl.cntPiece) x.Pieces
def topTell (x : Tell) (k : Int) : Tell := ⟨(Mm.mkL (Mm.mkL Pl.mkStr Pl.cnt1) (Mm.cntL Pl.cnt1)) x.Texts k, (Mm.mkL Pl.mkInt Pl.cnt1) x.Heard (k + (Mm.cntL (Mm.cntL Pl.cnt1)) x.Texts), (Mm.mkL Pl.mkNote Pl.cntNote) x.Line ((k + (Mm.cntL (Mm.cntL Pl.cnt1)) x.Texts) + (Mm.cntL Pl.cnt1) x.Heard), (Mm.mkL Pl.mkTold Pl.cntTold) x.Log (((k + (Mm.cntL (Mm.cntL Pl.cnt1)) x.Texts) + (Mm.cntL Pl.cnt1) x.Heard) + (Mm.cntL Pl.cntNote) x.Line), (Mm.mkL Pl.mkInt Pl.cnt1) x.Next ((((k + (Mm.cntL (Mm.cntL Pl.cnt1)) x.Texts) + (Mm.cntL Pl.cnt1) x.Heard) + (Mm.cntL Pl.cntNote) x.Line) + (Mm.cntL Pl.cntTold) x.Log)⟩
def ctopTell (x : Tell) : Int := (Mm.cntL (Mm.cntL Pl.cnt1)) x.Texts + (Mm.cntL Pl.cnt1) x.Heard + (Mm.cntL Pl.cntNote) x.Line + (Mm.cntL Pl.cntTold) x.Log + (Mm.cntL Pl.cnt1) x.Next
def topBank (x : Bank) (k : Int) : Bank := ⟨(Mm.mkL Pl.mkInt Pl.cnt1) x.Coins k, (Mm.mkL (Mm.mkL Pl.mkInt Pl.cnt1) (Mm.cntL Pl.cnt1)) x.Ways (k + (Mm.cntL Pl.cnt1) x.Coins), (Mm.mkL Pl.mkInt Pl.cnt1) x.Kept ((k + (Mm.cntL Pl.cnt1) x.Coins) + (Mm.cntL (Mm.cntL Pl.cnt1)) x.Ways), (Mm.mkL (Mm.mkL Pl.mkBool Pl.cnt1) (Mm.cntL Pl.cnt1)) x.Heard (((k + (Mm.cntL Pl.cnt1) x.Coins) + (Mm.cntL (Mm.cntL Pl.cnt1)) x.Ways) + (Mm.cntL Pl.cnt1) x.Kept), (Mm.mkL (Mm.mkL Pl.mkInt Pl.cnt1) (Mm.cntL Pl.cnt1)) x.Found ((((k + (Mm.cntL Pl.cnt1) x.Coins) + (Mm.cntL (Mm.cntL Pl.cnt1)) x.Ways) + (Mm.cntL Pl.cnt1) x.Kept) + (Mm.cntL (Mm.cntL Pl.cnt1)) x.Heard)⟩
def ctopBank (x : Bank) : Int := (Mm.cntL Pl.cnt1) x.Coins + (Mm.cntL (Mm.cntL Pl.cnt1)) x.Ways + (Mm.cntL Pl.cnt1) x.Kept + (Mm.cntL (Mm.cntL Pl.cnt1)) x.Heard + (Mm.cntL (Mm.cntL Pl.cnt1)) x.Found
def topHouse (x : House) (k : Int) : House := ⟨(Mm.mkL Pl.mkLog Pl.cntLog) x.Logs k, (Mm.mkL Pl.mkHead Pl.cntHead) x.Heads (k + (Mm.cntL Pl.cntLog) x.Logs), (Mm.mkL Pl.mkHead Pl.cntHead) x.Kept ((k + (Mm.cntL Pl.cntLog) x.Logs) + (Mm.cntL Pl.cntHead) x.Heads)⟩
def ctopHouse (x : House) : Int := (Mm.cntL Pl.cntLog) x.Logs + (Mm.cntL Pl.cntHead) x.Heads + (Mm.cntL Pl.cntHead) x.Kept
def topPoll (x : Poll) (k : Int) : Poll := ⟨(Mm.mkL Pl.mkNode Pl.cntNode) x.Nodes k, (Mm.mkL Pl.mkLetter Pl.cntLetter) x.Letters (k + (Mm.cntL Pl.cntNode) x.Nodes), (Mm.mkL (Mm.mkL Pl.mkInt Pl.cnt1) (Mm.cntL Pl.cnt1)) x.Leaders ((k + (Mm.cntL Pl.cntNode) x.Nodes) + (Mm.cntL Pl.cntLetter) x.Letters)⟩
def ctopPoll (x : Poll) : Int := (Mm.cntL Pl.cntNode) x.Nodes + (Mm.cntL Pl.cntLetter) x.Letters + (Mm.cntL (Mm.cntL Pl.cnt1)) x.Leaders
def topRepl (x : Repl) (k : Int) : Repl := ⟨(Mm.mkL (Mm.mkL Pl.mkEntry Pl.cntEntry) (Mm.cntL Pl.cntEntry)) x.Logs k, (Mm.mkL Pl.mkBool Pl.cnt1) x.Down (k + (Mm.cntL (Mm.cntL Pl.cntEntry)) x.Logs), x.Leader, x.Epoch, (Mm.mkL Pl.mkInt Pl.cnt1) x.InSync ((k + (Mm.cntL (Mm.cntL Pl.cntEntry)) x.Logs) + (Mm.cntL Pl.cnt1) x.Down), (Mm.mkL Pl.mkEntry Pl.cntEntry) x.Certain (((k + (Mm.cntL (Mm.cntL Pl.cntEntry)) x.Logs) + (Mm.cntL Pl.cnt1) x.Down) + (Mm.cntL Pl.cnt1) x.InSync)⟩
def ctopRepl (x : Repl) : Int := (Mm.cntL (Mm.cntL Pl.cntEntry)) x.Logs + (Mm.cntL Pl.cnt1) x.Down + (Mm.cntL Pl.cnt1) x.InSync + (Mm.cntL Pl.cntEntry) x.Certain
end Pl
namespace Pl
theorem cntLb {α : Type} {cnt f : α → Int} (h : ∀ x, cnt x ≤ 8 * (1 + f x)) : ∀ l : List α, Mm.cntL cnt l ≤ 8 * szl f l
  | [] => by simp [Mm.cntL, szl, sumI]
  | x :: t => by
    have h1 := h x
    have h2 := cntLb h t
    show cnt x + Mm.cntL cnt t ≤ 8 * (((t.length + 1 : Nat) : Int) + (f x + sumI f t))
    unfold szl at h2
    omega
theorem cntbSample (x : Sample) : cntSample x ≤ 8 * (1 + Pl.sz0 x) := by
  unfold cntSample sz0
  omega
theorem cntbWindow (x : Window) : cntWindow x ≤ 8 * (1 + Pl.sz0 x) := by
  unfold cntWindow sz0
  omega
theorem cntbTold (x : Told) : cntTold x ≤ 8 * (1 + Pl.szTold x) := by
  have s2 := szStr_nn x.Text
  unfold cntTold szTold
  omega
theorem cntbNote (x : Note) : cntNote x ≤ 8 * (1 + Pl.szNote x) := by
  have s3 := szStr_nn x.What.Text
  unfold cntNote szNote szTold
  omega
theorem cntbTellStep (x : TellStep) : cntTellStep x ≤ 8 * (1 + Pl.szTellStep x) := by
  have s2 := szStr_nn x.Text
  unfold cntTellStep szTellStep
  omega
theorem cntbSnapStep (x : SnapStep) : cntSnapStep x ≤ 8 * (1 + Pl.sz0 x) := by
  unfold cntSnapStep sz0
  omega
theorem cntbSay (x : Say) : cntSay x ≤ 8 * (1 + Pl.szSay x) := by
  have s0 := szStr_nn x.Name
  unfold cntSay szSay
  omega
theorem cntbLabel (x : Label) : cntLabel x ≤ 8 * (1 + Pl.szLabel x) := by
  have s0 := szStr_nn x.Name
  have s1 := szStr_nn x.Value
  unfold cntLabel szLabel
  omega
theorem cntbEntry (x : Entry) : cntEntry x ≤ 8 * (1 + Pl.szEntry x) := by
  have s1 := szStr_nn x.Text
  unfold cntEntry szEntry
  omega
theorem cntbStart (x : Start) : cntStart x ≤ 8 * (1 + Pl.sz0 x) := by
  unfold cntStart sz0
  omega
theorem cntbLetter (x : Letter) : cntLetter x ≤ 8 * (1 + Pl.sz0 x) := by
  unfold cntLetter sz0
  omega
theorem cntbVoteStep (x : VoteStep) : cntVoteStep x ≤ 8 * (1 + Pl.sz0 x) := by
  unfold cntVoteStep sz0
  omega
theorem cntbReplStep (x : ReplStep) : cntReplStep x ≤ 8 * (1 + Pl.szReplStep x) := by
  have s2 := szStr_nn x.Text
  unfold cntReplStep szReplStep
  omega
theorem cntbHouseStep (x : HouseStep) : cntHouseStep x ≤ 8 * (1 + Pl.szHouseStep x) := by
  have s2 := szStr_nn x.What.Name
  unfold cntHouseStep szHouseStep szSay
  omega
theorem cntbToken (x : Token) : cntToken x ≤ 8 * (1 + Pl.sz0 x) := by
  unfold cntToken sz0
  omega
theorem cntbRow (x : Row) : cntRow x ≤ 8 * (1 + Pl.szRow x) := by
  have s0 := szStr_nn x.Name
  have h1 := Pl.cntLb (cnt := Pl.cntSample) (f := Pl.sz0) (Pl.cntbSample) x.Samples
  have s1 := Pl.szl_nn (f := Pl.sz0) (Pl.sz0_nn) x.Samples
  unfold cntRow szRow
  omega
theorem cntbHead (x : Head) : cntHead x ≤ 8 * (1 + Pl.szHead x) := by
  have h0 := Pl.cntLb (cnt := Pl.cntRow) (f := Pl.szRow) (Pl.cntbRow) x.Rows
  have s0 := Pl.szl_nn (f := Pl.szRow) (Pl.szRow_nn) x.Rows
  unfold cntHead szHead
  omega
theorem cntbItem (x : Item) : cntItem x ≤ 8 * (1 + Pl.szItem x) := by
  have h0 := Pl.cntLb (cnt := Pl.cntLabel) (f := Pl.szLabel) (Pl.cntbLabel) x.Labels
  have s0 := Pl.szl_nn (f := Pl.szLabel) (Pl.szLabel_nn) x.Labels
  unfold cntItem szItem
  omega
theorem cntbTotal (x : Total) : cntTotal x ≤ 8 * (1 + Pl.szTotal x) := by
  have h0 := Pl.cntLb (cnt := Pl.cntLabel) (f := Pl.szLabel) (Pl.cntbLabel) x.Labels
  have s0 := Pl.szl_nn (f := Pl.szLabel) (Pl.szLabel_nn) x.Labels
  unfold cntTotal szTotal
  omega
theorem cntbSketch (x : Sketch) : cntSketch x ≤ 8 * (1 + Pl.szSketch x) := by
  have h0 := Pl.cntLb (cnt := (Mm.cntL Pl.cnt1)) (f := (Pl.szl Pl.sz0)) (fun x => by have := Pl.cntLb (cnt := Pl.cnt1) (f := Pl.sz0) (fun x => by have := Pl.sz0_nn x; unfold Pl.cnt1; omega) x; omega) x.Rows
  have s0 := Pl.szl_nn (f := (Pl.szl Pl.sz0)) (Pl.szl_nn (f := Pl.sz0) (Pl.sz0_nn)) x.Rows
  unfold cntSketch szSketch
  omega
theorem cntbHeavy (x : Heavy) : cntHeavy x ≤ 8 * (1 + Pl.szHeavy x) := by
  have h0 := Pl.cntLb (cnt := Pl.cnt1) (f := Pl.szStr) (fun x => by have := Pl.szStr_nn x; unfold Pl.cnt1; omega) x.Names
  have s0 := Pl.szl_nn (f := Pl.szStr) (Pl.szStr_nn) x.Names
  have h1 := Pl.cntLb (cnt := Pl.cnt1) (f := Pl.sz0) (fun x => by have := Pl.sz0_nn x; unfold Pl.cnt1; omega) x.Counts
  have s1 := Pl.szl_nn (f := Pl.sz0) (Pl.sz0_nn) x.Counts
  unfold cntHeavy szHeavy
  omega
theorem cntbPiece (x : Piece) : cntPiece x ≤ 8 * (1 + Pl.szPiece x) := by
  have s1 := szStr_nn x.Bytes
  have h2 := Pl.cntLb (cnt := Pl.cnt1) (f := Pl.sz0) (fun x => by have := Pl.sz0_nn x; unfold Pl.cnt1; omega) x.Index
  have s2 := Pl.szl_nn (f := Pl.sz0) (Pl.sz0_nn) x.Index
  unfold cntPiece szPiece
  omega
theorem cntbLog (x : Log) : cntLog x ≤ 8 * (1 + Pl.szLog x) := by
  have h0 := Pl.cntLb (cnt := Pl.cntPiece) (f := Pl.szPiece) (Pl.cntbPiece) x.Pieces
  have s0 := Pl.szl_nn (f := Pl.szPiece) (Pl.szPiece_nn) x.Pieces
  unfold cntLog szLog
  omega
theorem cntbHouse (x : House) : cntHouse x ≤ 8 * (1 + Pl.szHouse x) := by
  have h0 := Pl.cntLb (cnt := Pl.cntLog) (f := Pl.szLog) (Pl.cntbLog) x.Logs
  have s0 := Pl.szl_nn (f := Pl.szLog) (Pl.szLog_nn) x.Logs
  have h1 := Pl.cntLb (cnt := Pl.cntHead) (f := Pl.szHead) (Pl.cntbHead) x.Heads
  have s1 := Pl.szl_nn (f := Pl.szHead) (Pl.szHead_nn) x.Heads
  have h2 := Pl.cntLb (cnt := Pl.cntHead) (f := Pl.szHead) (Pl.cntbHead) x.Kept
  have s2 := Pl.szl_nn (f := Pl.szHead) (Pl.szHead_nn) x.Kept
  unfold cntHouse szHouse
  omega
theorem cntbTell (x : Tell) : cntTell x ≤ 8 * (1 + Pl.szTell x) := by
  have h0 := Pl.cntLb (cnt := (Mm.cntL Pl.cnt1)) (f := (Pl.szl Pl.szStr)) (fun x => by have := Pl.cntLb (cnt := Pl.cnt1) (f := Pl.szStr) (fun x => by have := Pl.szStr_nn x; unfold Pl.cnt1; omega) x; omega) x.Texts
  have s0 := Pl.szl_nn (f := (Pl.szl Pl.szStr)) (Pl.szl_nn (f := Pl.szStr) (Pl.szStr_nn)) x.Texts
  have h1 := Pl.cntLb (cnt := Pl.cnt1) (f := Pl.sz0) (fun x => by have := Pl.sz0_nn x; unfold Pl.cnt1; omega) x.Heard
  have s1 := Pl.szl_nn (f := Pl.sz0) (Pl.sz0_nn) x.Heard
  have h2 := Pl.cntLb (cnt := Pl.cntNote) (f := Pl.szNote) (Pl.cntbNote) x.Line
  have s2 := Pl.szl_nn (f := Pl.szNote) (Pl.szNote_nn) x.Line
  have h3 := Pl.cntLb (cnt := Pl.cntTold) (f := Pl.szTold) (Pl.cntbTold) x.Log
  have s3 := Pl.szl_nn (f := Pl.szTold) (Pl.szTold_nn) x.Log
  have h4 := Pl.cntLb (cnt := Pl.cnt1) (f := Pl.sz0) (fun x => by have := Pl.sz0_nn x; unfold Pl.cnt1; omega) x.Next
  have s4 := Pl.szl_nn (f := Pl.sz0) (Pl.sz0_nn) x.Next
  unfold cntTell szTell
  omega
theorem cntbBank (x : Bank) : cntBank x ≤ 8 * (1 + Pl.szBank x) := by
  have h0 := Pl.cntLb (cnt := Pl.cnt1) (f := Pl.sz0) (fun x => by have := Pl.sz0_nn x; unfold Pl.cnt1; omega) x.Coins
  have s0 := Pl.szl_nn (f := Pl.sz0) (Pl.sz0_nn) x.Coins
  have h1 := Pl.cntLb (cnt := (Mm.cntL Pl.cnt1)) (f := (Pl.szl Pl.sz0)) (fun x => by have := Pl.cntLb (cnt := Pl.cnt1) (f := Pl.sz0) (fun x => by have := Pl.sz0_nn x; unfold Pl.cnt1; omega) x; omega) x.Ways
  have s1 := Pl.szl_nn (f := (Pl.szl Pl.sz0)) (Pl.szl_nn (f := Pl.sz0) (Pl.sz0_nn)) x.Ways
  have h2 := Pl.cntLb (cnt := Pl.cnt1) (f := Pl.sz0) (fun x => by have := Pl.sz0_nn x; unfold Pl.cnt1; omega) x.Kept
  have s2 := Pl.szl_nn (f := Pl.sz0) (Pl.sz0_nn) x.Kept
  have h3 := Pl.cntLb (cnt := (Mm.cntL Pl.cnt1)) (f := (Pl.szl Pl.sz0)) (fun x => by have := Pl.cntLb (cnt := Pl.cnt1) (f := Pl.sz0) (fun x => by have := Pl.sz0_nn x; unfold Pl.cnt1; omega) x; omega) x.Heard
  have s3 := Pl.szl_nn (f := (Pl.szl Pl.sz0)) (Pl.szl_nn (f := Pl.sz0) (Pl.sz0_nn)) x.Heard
  have h4 := Pl.cntLb (cnt := (Mm.cntL Pl.cnt1)) (f := (Pl.szl Pl.sz0)) (fun x => by have := Pl.cntLb (cnt := Pl.cnt1) (f := Pl.sz0) (fun x => by have := Pl.sz0_nn x; unfold Pl.cnt1; omega) x; omega) x.Found
  have s4 := Pl.szl_nn (f := (Pl.szl Pl.sz0)) (Pl.szl_nn (f := Pl.sz0) (Pl.sz0_nn)) x.Found
  unfold cntBank szBank
  omega
theorem cntbNode (x : Node) : cntNode x ≤ 8 * (1 + Pl.szNode x) := by
  have h3 := Pl.cntLb (cnt := Pl.cnt1) (f := Pl.sz0) (fun x => by have := Pl.sz0_nn x; unfold Pl.cnt1; omega) x.Heard
  have s3 := Pl.szl_nn (f := Pl.sz0) (Pl.sz0_nn) x.Heard
  unfold cntNode szNode
  omega
theorem cntbPoll (x : Poll) : cntPoll x ≤ 8 * (1 + Pl.szPoll x) := by
  have h0 := Pl.cntLb (cnt := Pl.cntNode) (f := Pl.szNode) (Pl.cntbNode) x.Nodes
  have s0 := Pl.szl_nn (f := Pl.szNode) (Pl.szNode_nn) x.Nodes
  have h1 := Pl.cntLb (cnt := Pl.cntLetter) (f := Pl.sz0) (Pl.cntbLetter) x.Letters
  have s1 := Pl.szl_nn (f := Pl.sz0) (Pl.sz0_nn) x.Letters
  have h2 := Pl.cntLb (cnt := (Mm.cntL Pl.cnt1)) (f := (Pl.szl Pl.sz0)) (fun x => by have := Pl.cntLb (cnt := Pl.cnt1) (f := Pl.sz0) (fun x => by have := Pl.sz0_nn x; unfold Pl.cnt1; omega) x; omega) x.Leaders
  have s2 := Pl.szl_nn (f := (Pl.szl Pl.sz0)) (Pl.szl_nn (f := Pl.sz0) (Pl.sz0_nn)) x.Leaders
  unfold cntPoll szPoll
  omega
theorem cntbRepl (x : Repl) : cntRepl x ≤ 8 * (1 + Pl.szRepl x) := by
  have h0 := Pl.cntLb (cnt := (Mm.cntL Pl.cntEntry)) (f := (Pl.szl Pl.szEntry)) (fun x => by have := Pl.cntLb (cnt := Pl.cntEntry) (f := Pl.szEntry) (Pl.cntbEntry) x; omega) x.Logs
  have s0 := Pl.szl_nn (f := (Pl.szl Pl.szEntry)) (Pl.szl_nn (f := Pl.szEntry) (Pl.szEntry_nn)) x.Logs
  have h1 := Pl.cntLb (cnt := Pl.cnt1) (f := Pl.sz0) (fun x => by have := Pl.sz0_nn x; unfold Pl.cnt1; omega) x.Down
  have s1 := Pl.szl_nn (f := Pl.sz0) (Pl.sz0_nn) x.Down
  have h4 := Pl.cntLb (cnt := Pl.cnt1) (f := Pl.sz0) (fun x => by have := Pl.sz0_nn x; unfold Pl.cnt1; omega) x.InSync
  have s4 := Pl.szl_nn (f := Pl.sz0) (Pl.sz0_nn) x.InSync
  have h5 := Pl.cntLb (cnt := Pl.cntEntry) (f := Pl.szEntry) (Pl.cntbEntry) x.Certain
  have s5 := Pl.szl_nn (f := Pl.szEntry) (Pl.szEntry_nn) x.Certain
  unfold cntRepl szRepl
  omega
theorem ctopSketch_nn (x : Sketch) : 0 ≤ ctopSketch x := by
  have h0 := Mm.cntL_nn (cnt := (Mm.cntL Pl.cnt1)) (Mm.cntL_nn (cnt := Pl.cnt1) (Pl.cnt1_nn)) x.Rows
  unfold ctopSketch; omega
theorem ctopbSketch (x : Sketch) : ctopSketch x ≤ 8 * Pl.szSketch x := by
  have h0 := Pl.cntLb (cnt := (Mm.cntL Pl.cnt1)) (f := (Pl.szl Pl.sz0)) (fun x => by have := Pl.cntLb (cnt := Pl.cnt1) (f := Pl.sz0) (fun x => by have := Pl.sz0_nn x; unfold Pl.cnt1; omega) x; omega) x.Rows
  unfold ctopSketch szSketch; omega
theorem ctopHeavy_nn (x : Heavy) : 0 ≤ ctopHeavy x := by
  have h0 := Mm.cntL_nn (cnt := Pl.cnt1) (Pl.cnt1_nn) x.Names
  have h1 := Mm.cntL_nn (cnt := Pl.cnt1) (Pl.cnt1_nn) x.Counts
  unfold ctopHeavy; omega
theorem ctopbHeavy (x : Heavy) : ctopHeavy x ≤ 8 * Pl.szHeavy x := by
  have h0 := Pl.cntLb (cnt := Pl.cnt1) (f := Pl.szStr) (fun x => by have := Pl.szStr_nn x; unfold Pl.cnt1; omega) x.Names
  have h1 := Pl.cntLb (cnt := Pl.cnt1) (f := Pl.sz0) (fun x => by have := Pl.sz0_nn x; unfold Pl.cnt1; omega) x.Counts
  unfold ctopHeavy szHeavy; omega
theorem ctopHead_nn (x : Head) : 0 ≤ ctopHead x := by
  have h0 := Mm.cntL_nn (cnt := Pl.cntRow) (Pl.cntRow_nn) x.Rows
  unfold ctopHead; omega
theorem ctopbHead (x : Head) : ctopHead x ≤ 8 * Pl.szHead x := by
  have h0 := Pl.cntLb (cnt := Pl.cntRow) (f := Pl.szRow) (Pl.cntbRow) x.Rows
  unfold ctopHead szHead; omega
theorem ctopLog_nn (x : Log) : 0 ≤ ctopLog x := by
  have h0 := Mm.cntL_nn (cnt := Pl.cntPiece) (Pl.cntPiece_nn) x.Pieces
  unfold ctopLog; omega
theorem ctopbLog (x : Log) : ctopLog x ≤ 8 * Pl.szLog x := by
  have h0 := Pl.cntLb (cnt := Pl.cntPiece) (f := Pl.szPiece) (Pl.cntbPiece) x.Pieces
  unfold ctopLog szLog; omega
theorem ctopTell_nn (x : Tell) : 0 ≤ ctopTell x := by
  have h0 := Mm.cntL_nn (cnt := (Mm.cntL Pl.cnt1)) (Mm.cntL_nn (cnt := Pl.cnt1) (Pl.cnt1_nn)) x.Texts
  have h1 := Mm.cntL_nn (cnt := Pl.cnt1) (Pl.cnt1_nn) x.Heard
  have h2 := Mm.cntL_nn (cnt := Pl.cntNote) (Pl.cntNote_nn) x.Line
  have h3 := Mm.cntL_nn (cnt := Pl.cntTold) (Pl.cntTold_nn) x.Log
  have h4 := Mm.cntL_nn (cnt := Pl.cnt1) (Pl.cnt1_nn) x.Next
  unfold ctopTell; omega
theorem ctopbTell (x : Tell) : ctopTell x ≤ 8 * Pl.szTell x := by
  have h0 := Pl.cntLb (cnt := (Mm.cntL Pl.cnt1)) (f := (Pl.szl Pl.szStr)) (fun x => by have := Pl.cntLb (cnt := Pl.cnt1) (f := Pl.szStr) (fun x => by have := Pl.szStr_nn x; unfold Pl.cnt1; omega) x; omega) x.Texts
  have h1 := Pl.cntLb (cnt := Pl.cnt1) (f := Pl.sz0) (fun x => by have := Pl.sz0_nn x; unfold Pl.cnt1; omega) x.Heard
  have h2 := Pl.cntLb (cnt := Pl.cntNote) (f := Pl.szNote) (Pl.cntbNote) x.Line
  have h3 := Pl.cntLb (cnt := Pl.cntTold) (f := Pl.szTold) (Pl.cntbTold) x.Log
  have h4 := Pl.cntLb (cnt := Pl.cnt1) (f := Pl.sz0) (fun x => by have := Pl.sz0_nn x; unfold Pl.cnt1; omega) x.Next
  unfold ctopTell szTell; omega
theorem ctopBank_nn (x : Bank) : 0 ≤ ctopBank x := by
  have h0 := Mm.cntL_nn (cnt := Pl.cnt1) (Pl.cnt1_nn) x.Coins
  have h1 := Mm.cntL_nn (cnt := (Mm.cntL Pl.cnt1)) (Mm.cntL_nn (cnt := Pl.cnt1) (Pl.cnt1_nn)) x.Ways
  have h2 := Mm.cntL_nn (cnt := Pl.cnt1) (Pl.cnt1_nn) x.Kept
  have h3 := Mm.cntL_nn (cnt := (Mm.cntL Pl.cnt1)) (Mm.cntL_nn (cnt := Pl.cnt1) (Pl.cnt1_nn)) x.Heard
  have h4 := Mm.cntL_nn (cnt := (Mm.cntL Pl.cnt1)) (Mm.cntL_nn (cnt := Pl.cnt1) (Pl.cnt1_nn)) x.Found
  unfold ctopBank; omega
theorem ctopbBank (x : Bank) : ctopBank x ≤ 8 * Pl.szBank x := by
  have h0 := Pl.cntLb (cnt := Pl.cnt1) (f := Pl.sz0) (fun x => by have := Pl.sz0_nn x; unfold Pl.cnt1; omega) x.Coins
  have h1 := Pl.cntLb (cnt := (Mm.cntL Pl.cnt1)) (f := (Pl.szl Pl.sz0)) (fun x => by have := Pl.cntLb (cnt := Pl.cnt1) (f := Pl.sz0) (fun x => by have := Pl.sz0_nn x; unfold Pl.cnt1; omega) x; omega) x.Ways
  have h2 := Pl.cntLb (cnt := Pl.cnt1) (f := Pl.sz0) (fun x => by have := Pl.sz0_nn x; unfold Pl.cnt1; omega) x.Kept
  have h3 := Pl.cntLb (cnt := (Mm.cntL Pl.cnt1)) (f := (Pl.szl Pl.sz0)) (fun x => by have := Pl.cntLb (cnt := Pl.cnt1) (f := Pl.sz0) (fun x => by have := Pl.sz0_nn x; unfold Pl.cnt1; omega) x; omega) x.Heard
  have h4 := Pl.cntLb (cnt := (Mm.cntL Pl.cnt1)) (f := (Pl.szl Pl.sz0)) (fun x => by have := Pl.cntLb (cnt := Pl.cnt1) (f := Pl.sz0) (fun x => by have := Pl.sz0_nn x; unfold Pl.cnt1; omega) x; omega) x.Found
  unfold ctopBank szBank; omega
theorem ctopHouse_nn (x : House) : 0 ≤ ctopHouse x := by
  have h0 := Mm.cntL_nn (cnt := Pl.cntLog) (Pl.cntLog_nn) x.Logs
  have h1 := Mm.cntL_nn (cnt := Pl.cntHead) (Pl.cntHead_nn) x.Heads
  have h2 := Mm.cntL_nn (cnt := Pl.cntHead) (Pl.cntHead_nn) x.Kept
  unfold ctopHouse; omega
theorem ctopbHouse (x : House) : ctopHouse x ≤ 8 * Pl.szHouse x := by
  have h0 := Pl.cntLb (cnt := Pl.cntLog) (f := Pl.szLog) (Pl.cntbLog) x.Logs
  have h1 := Pl.cntLb (cnt := Pl.cntHead) (f := Pl.szHead) (Pl.cntbHead) x.Heads
  have h2 := Pl.cntLb (cnt := Pl.cntHead) (f := Pl.szHead) (Pl.cntbHead) x.Kept
  unfold ctopHouse szHouse; omega
theorem ctopPoll_nn (x : Poll) : 0 ≤ ctopPoll x := by
  have h0 := Mm.cntL_nn (cnt := Pl.cntNode) (Pl.cntNode_nn) x.Nodes
  have h1 := Mm.cntL_nn (cnt := Pl.cntLetter) (Pl.cntLetter_nn) x.Letters
  have h2 := Mm.cntL_nn (cnt := (Mm.cntL Pl.cnt1)) (Mm.cntL_nn (cnt := Pl.cnt1) (Pl.cnt1_nn)) x.Leaders
  unfold ctopPoll; omega
theorem ctopbPoll (x : Poll) : ctopPoll x ≤ 8 * Pl.szPoll x := by
  have h0 := Pl.cntLb (cnt := Pl.cntNode) (f := Pl.szNode) (Pl.cntbNode) x.Nodes
  have h1 := Pl.cntLb (cnt := Pl.cntLetter) (f := Pl.sz0) (Pl.cntbLetter) x.Letters
  have h2 := Pl.cntLb (cnt := (Mm.cntL Pl.cnt1)) (f := (Pl.szl Pl.sz0)) (fun x => by have := Pl.cntLb (cnt := Pl.cnt1) (f := Pl.sz0) (fun x => by have := Pl.sz0_nn x; unfold Pl.cnt1; omega) x; omega) x.Leaders
  unfold ctopPoll szPoll; omega
theorem ctopRepl_nn (x : Repl) : 0 ≤ ctopRepl x := by
  have h0 := Mm.cntL_nn (cnt := (Mm.cntL Pl.cntEntry)) (Mm.cntL_nn (cnt := Pl.cntEntry) (Pl.cntEntry_nn)) x.Logs
  have h1 := Mm.cntL_nn (cnt := Pl.cnt1) (Pl.cnt1_nn) x.Down
  have h2 := Mm.cntL_nn (cnt := Pl.cnt1) (Pl.cnt1_nn) x.InSync
  have h3 := Mm.cntL_nn (cnt := Pl.cntEntry) (Pl.cntEntry_nn) x.Certain
  unfold ctopRepl; omega
theorem ctopbRepl (x : Repl) : ctopRepl x ≤ 8 * Pl.szRepl x := by
  have h0 := Pl.cntLb (cnt := (Mm.cntL Pl.cntEntry)) (f := (Pl.szl Pl.szEntry)) (fun x => by have := Pl.cntLb (cnt := Pl.cntEntry) (f := Pl.szEntry) (Pl.cntbEntry) x; omega) x.Logs
  have h1 := Pl.cntLb (cnt := Pl.cnt1) (f := Pl.sz0) (fun x => by have := Pl.sz0_nn x; unfold Pl.cnt1; omega) x.Down
  have h2 := Pl.cntLb (cnt := Pl.cnt1) (f := Pl.sz0) (fun x => by have := Pl.sz0_nn x; unfold Pl.cnt1; omega) x.InSync
  have h3 := Pl.cntLb (cnt := Pl.cntEntry) (f := Pl.szEntry) (Pl.cntbEntry) x.Certain
  unfold ctopRepl szRepl; omega
end Pl
namespace Pl
theorem digs_len : ∀ (f k : Nat) (acc : List UInt8), (digs f k acc).length ≤ acc.length + f
  | 0, _, acc => by simp [digs]
  | f + 1, k, acc => by
    unfold digs
    split
    · omega
    · have := digs_len f (k / 10) (UInt8.ofNat (48 + k % 10) :: acc)
      rw [List.length_cons] at this
      omega
theorem mkText_len (k : Int) (h0 : 0 ≤ k) (h1 : k ≤ 1000000000000) : (mkText k).size ≤ maxLen := by
  unfold mkText
  have := digs_len k.toNat k.toNat []
  show (109 :: digs k.toNat k.toNat []).toArray.size ≤ maxLen
  rw [List.size_toArray, List.length_cons]
  unfold maxLen
  simp only [List.length_nil] at this
  omega
end Pl
end Go.Proofs.Ytnppcdiicnofpab

/-
  How the program's types lie in memory. No conditions.
-/
namespace Go.Proofs.Ytnppcdiicnofpab
def rLabel : Mm.Rep Label := Mm.flat 2 (fun x => [.string x.Name, .string x.Value]) (fun x => x.Name.size ≤ maxLen ∧ x.Value.size ≤ maxLen) (fun _ => rfl) (fun _ u hu => by
  simp at hu; rcases hu with rfl | rfl <;> rfl)
theorem rLabel_at {w : World} {B : Nat} {x : Label} {cs : List Value} (h : rLabel.at_ w B x cs) : cs = [.string x.Name, .string x.Value] ∧ x.Name.size ≤ maxLen ∧ x.Value.size ≤ maxLen := h
theorem rLabel_own {w : World} {x : Label} {cs : List Value} {fp : List Nat} (h : rLabel.own w x cs fp) : cs = [.string x.Name, .string x.Value] ∧ (x.Name.size ≤ maxLen ∧ x.Value.size ≤ maxLen) ∧ fp = [] := h
theorem rLabel_own_mk {w : World} {x : Label} (h : x.Name.size ≤ maxLen ∧ x.Value.size ≤ maxLen) : rLabel.own w x [.string x.Name, .string x.Value] [] := ⟨rfl, h, rfl⟩
def rLabelS : Mm.Rep (List Label) := Mm.slice rLabel 79
def rItem : Mm.Rep Item := Mm.iso (fun x => (x.Labels, x.Value)) (Mm.pair rLabelS Mm.int)
theorem rItem_at {w : World} {B : Nat} {x : Item} {cs : List Value} (h : rItem.at_ w B x cs) : ∃ A n c, cs = [.slice A n c, .int .i64 x.Value] ∧ Mm.SlAt rLabel w B x.Labels A n c ∧ Mm.I64 x.Value := by
  obtain ⟨_, _, rfl, ⟨A, n, c, rfl, h0⟩, ⟨rfl, h1⟩⟩ := h
  exact ⟨A, n, c, rfl, h0, h1⟩
theorem rItem_at_mk {w : World} {B : Nat} {x : Item} {A : Option Addr} {n c : Nat} (g0 : Mm.SlAt rLabel w B x.Labels A n c) (g1 : Mm.I64 x.Value) : rItem.at_ w B x [.slice A n c, .int .i64 x.Value] :=
  ⟨_, _, rfl, ⟨A, n, c, rfl, g0⟩, ⟨rfl, g1⟩⟩
theorem rItem_own {w : World} {x : Item} {cs : List Value} {fp : List Nat} (h : rItem.own w x cs fp) : ∃ A n c f, cs = [.slice A n c, .int .i64 x.Value] ∧ fp = f ∧ Mm.SlOwn rLabel 79 w x.Labels (.slice A n c) f ∧ Mm.I64 x.Value := by
  obtain ⟨_, _, _, _, rfl, rfl, ⟨v0, rfl, h0⟩, ⟨rfl, h1, rfl⟩⟩ := h
  obtain ⟨A, n, c, rfl, _⟩ := h0.form
  exact ⟨A, n, c, _, rfl, by simp, h0, h1⟩
theorem rItem_own_mk {w : World} {x : Item} {A : Option Addr} {n c : Nat} {f : List Nat} (g0 : Mm.SlOwn rLabel 79 w x.Labels (.slice A n c) f) (g1 : Mm.I64 x.Value) : rItem.own w x [.slice A n c, .int .i64 x.Value] (f) := by
  have h : rItem.own w x _ _ := ⟨_, _, _, _, rfl, rfl, ⟨_, rfl, g0⟩, ⟨rfl, g1, rfl⟩⟩
  simpa using h
def rTotal : Mm.Rep Total := Mm.iso (fun x => (x.Labels, (x.Sum, (x.Count, (x.Least, x.Most))))) (Mm.pair rLabelS (Mm.pair Mm.int (Mm.pair Mm.int (Mm.pair Mm.int Mm.int))))
theorem rTotal_at {w : World} {B : Nat} {x : Total} {cs : List Value} (h : rTotal.at_ w B x cs) : ∃ A n c, cs = [.slice A n c, .int .i64 x.Sum, .int .i64 x.Count, .int .i64 x.Least, .int .i64 x.Most] ∧ Mm.SlAt rLabel w B x.Labels A n c ∧ Mm.I64 x.Sum ∧ Mm.I64 x.Count ∧ Mm.I64 x.Least ∧ Mm.I64 x.Most := by
  obtain ⟨_, _, rfl, ⟨A, n, c, rfl, h0⟩, ⟨_, _, rfl, ⟨rfl, h1⟩, ⟨_, _, rfl, ⟨rfl, h2⟩, ⟨_, _, rfl, ⟨rfl, h3⟩, ⟨rfl, h4⟩⟩⟩⟩⟩ := h
  exact ⟨A, n, c, rfl, h0, h1, h2, h3, h4⟩
theorem rTotal_at_mk {w : World} {B : Nat} {x : Total} {A : Option Addr} {n c : Nat} (g0 : Mm.SlAt rLabel w B x.Labels A n c) (g1 : Mm.I64 x.Sum) (g2 : Mm.I64 x.Count) (g3 : Mm.I64 x.Least) (g4 : Mm.I64 x.Most) : rTotal.at_ w B x [.slice A n c, .int .i64 x.Sum, .int .i64 x.Count, .int .i64 x.Least, .int .i64 x.Most] :=
  ⟨_, _, rfl, ⟨A, n, c, rfl, g0⟩, ⟨_, _, rfl, ⟨rfl, g1⟩, ⟨_, _, rfl, ⟨rfl, g2⟩, ⟨_, _, rfl, ⟨rfl, g3⟩, ⟨rfl, g4⟩⟩⟩⟩⟩
theorem rTotal_own {w : World} {x : Total} {cs : List Value} {fp : List Nat} (h : rTotal.own w x cs fp) : ∃ A n c f, cs = [.slice A n c, .int .i64 x.Sum, .int .i64 x.Count, .int .i64 x.Least, .int .i64 x.Most] ∧ fp = f ∧ Mm.SlOwn rLabel 79 w x.Labels (.slice A n c) f ∧ Mm.I64 x.Sum ∧ Mm.I64 x.Count ∧ Mm.I64 x.Least ∧ Mm.I64 x.Most := by
  obtain ⟨_, _, _, _, rfl, rfl, ⟨v0, rfl, h0⟩, ⟨_, _, _, _, rfl, rfl, ⟨rfl, h1, rfl⟩, ⟨_, _, _, _, rfl, rfl, ⟨rfl, h2, rfl⟩, ⟨_, _, _, _, rfl, rfl, ⟨rfl, h3, rfl⟩, ⟨rfl, h4, rfl⟩⟩⟩⟩⟩ := h
  obtain ⟨A, n, c, rfl, _⟩ := h0.form
  exact ⟨A, n, c, _, rfl, by simp, h0, h1, h2, h3, h4⟩
theorem rTotal_own_mk {w : World} {x : Total} {A : Option Addr} {n c : Nat} {f : List Nat} (g0 : Mm.SlOwn rLabel 79 w x.Labels (.slice A n c) f) (g1 : Mm.I64 x.Sum) (g2 : Mm.I64 x.Count) (g3 : Mm.I64 x.Least) (g4 : Mm.I64 x.Most) : rTotal.own w x [.slice A n c, .int .i64 x.Sum, .int .i64 x.Count, .int .i64 x.Least, .int .i64 x.Most] (f) := by
  have h : rTotal.own w x _ _ := ⟨_, _, _, _, rfl, rfl, ⟨_, rfl, g0⟩, ⟨_, _, _, _, rfl, rfl, ⟨rfl, g1, rfl⟩, ⟨_, _, _, _, rfl, rfl, ⟨rfl, g2, rfl⟩, ⟨_, _, _, _, rfl, rfl, ⟨rfl, g3, rfl⟩, ⟨rfl, g4, rfl⟩⟩⟩⟩⟩
  simpa using h
def ints : Mm.Rep (List Int) := Mm.slice Mm.int 3
def strs : Mm.Rep (List ByteArray) := Mm.slice Mm.str 9
def rItemS : Mm.Rep (List Item) := Mm.slice rItem 56
def rTotalS : Mm.Rep (List Total) := Mm.slice rTotal 59
theorem int_get {w : World} {B : Nat} {l : List Int} {A : Option Addr} {n c k : Nat} (h : Mm.SlAt Mm.int w B l A n c) (hk : k < n) :
    ∃ x b off, l[k]? = some x ∧ A = some ⟨b, off, none⟩ ∧ b < B ∧ Mm.I64 x ∧ w.cell? ⟨b, off + k, none⟩ = some (.int .i64 x) := by
  obtain ⟨x, b, off, cs, hx, hA, hb, ha, hc⟩ := h.get hk
  obtain ⟨rfl, g0⟩ := ha
  exact ⟨x, b, off, hx, hA, hb, g0, (by rw [show off + k = off + k * Mm.int.size + 0 by show _ = off + k * 1 + 0; omega]; exact hc 0 _ rfl)⟩
theorem int_get' {w : World} {B : Nat} {l : List Int} {b off n c k : Nat} (h : Mm.SlAt Mm.int w B l (some ⟨b, off, none⟩) n c) (hk : k < n) :
    ∃ x, l[k]? = some x ∧ b < B ∧ Mm.I64 x ∧ w.cell? ⟨b, off + k, none⟩ = some (.int .i64 x) := by
  obtain ⟨x, cs, hx, hb, ha, hc⟩ := h.get' hk
  obtain ⟨rfl, g0⟩ := ha
  exact ⟨x, hx, hb, g0, (by rw [show off + k = off + k * Mm.int.size + 0 by show _ = off + k * 1 + 0; omega]; exact hc 0 _ rfl)⟩
theorem int_ocell {w : World} {e : TypeId} {xs : List Int} {g n c i : Nat} {x : Int} {fp : List Nat} (h : Mm.SlOwn Mm.int e w xs (.slice (some ⟨g, 0, none⟩) n c) fp) (hnd : fp.Nodup) (hi : xs[i]? = some x) : w.cell? ⟨g, i, none⟩ = some (.int .i64 x) := by
  obtain ⟨cs, fx, hown, _, _, hc, _⟩ := h.inner hnd hi
  obtain ⟨rfl, _, _⟩ := hown
  exact ((by have e0 := hc 0 _ rfl; rwa [show i * Mm.int.size + 0 = i by show i * 1 + 0 = i; omega] at e0))
theorem str_get {w : World} {B : Nat} {l : List ByteArray} {A : Option Addr} {n c k : Nat} (h : Mm.SlAt Mm.str w B l A n c) (hk : k < n) :
    ∃ x b off, l[k]? = some x ∧ A = some ⟨b, off, none⟩ ∧ b < B ∧ x.size ≤ maxLen ∧ w.cell? ⟨b, off + k, none⟩ = some (.string x) := by
  obtain ⟨x, b, off, cs, hx, hA, hb, ha, hc⟩ := h.get hk
  obtain ⟨rfl, g0⟩ := ha
  exact ⟨x, b, off, hx, hA, hb, g0, (by rw [show off + k = off + k * Mm.str.size + 0 by show _ = off + k * 1 + 0; omega]; exact hc 0 _ rfl)⟩
theorem str_get' {w : World} {B : Nat} {l : List ByteArray} {b off n c k : Nat} (h : Mm.SlAt Mm.str w B l (some ⟨b, off, none⟩) n c) (hk : k < n) :
    ∃ x, l[k]? = some x ∧ b < B ∧ x.size ≤ maxLen ∧ w.cell? ⟨b, off + k, none⟩ = some (.string x) := by
  obtain ⟨x, cs, hx, hb, ha, hc⟩ := h.get' hk
  obtain ⟨rfl, g0⟩ := ha
  exact ⟨x, hx, hb, g0, (by rw [show off + k = off + k * Mm.str.size + 0 by show _ = off + k * 1 + 0; omega]; exact hc 0 _ rfl)⟩
theorem str_ocell {w : World} {e : TypeId} {xs : List ByteArray} {g n c i : Nat} {x : ByteArray} {fp : List Nat} (h : Mm.SlOwn Mm.str e w xs (.slice (some ⟨g, 0, none⟩) n c) fp) (hnd : fp.Nodup) (hi : xs[i]? = some x) : w.cell? ⟨g, i, none⟩ = some (.string x) := by
  obtain ⟨cs, fx, hown, _, _, hc, _⟩ := h.inner hnd hi
  obtain ⟨rfl, _, _⟩ := hown
  exact ((by have e0 := hc 0 _ rfl; rwa [show i * Mm.str.size + 0 = i by show i * 1 + 0 = i; omega] at e0))
theorem rLabel_get {w : World} {B : Nat} {l : List Label} {A : Option Addr} {n c k : Nat} (h : Mm.SlAt rLabel w B l A n c) (hk : k < n) :
    ∃ x b off, l[k]? = some x ∧ A = some ⟨b, off, none⟩ ∧ b < B ∧ x.Name.size ≤ maxLen ∧ x.Value.size ≤ maxLen ∧ w.cell? ⟨b, off + k * 2, none⟩ = some (.string x.Name) ∧ w.cell? ⟨b, off + k * 2 + 1, none⟩ = some (.string x.Value) := by
  obtain ⟨x, b, off, cs, hx, hA, hb, ha, hc⟩ := h.get hk
  obtain ⟨rfl, g0, g1⟩ := rLabel_at ha
  exact ⟨x, b, off, hx, hA, hb, g0, g1, hc 0 _ rfl, hc 1 _ rfl⟩
theorem rLabel_get' {w : World} {B : Nat} {l : List Label} {b off n c k : Nat} (h : Mm.SlAt rLabel w B l (some ⟨b, off, none⟩) n c) (hk : k < n) :
    ∃ x, l[k]? = some x ∧ b < B ∧ x.Name.size ≤ maxLen ∧ x.Value.size ≤ maxLen ∧ w.cell? ⟨b, off + k * 2, none⟩ = some (.string x.Name) ∧ w.cell? ⟨b, off + k * 2 + 1, none⟩ = some (.string x.Value) := by
  obtain ⟨x, cs, hx, hb, ha, hc⟩ := h.get' hk
  obtain ⟨rfl, g0, g1⟩ := rLabel_at ha
  exact ⟨x, hx, hb, g0, g1, hc 0 _ rfl, hc 1 _ rfl⟩
theorem rLabel_ocell {w : World} {e : TypeId} {xs : List Label} {g n c i : Nat} {x : Label} {fp : List Nat} (h : Mm.SlOwn rLabel e w xs (.slice (some ⟨g, 0, none⟩) n c) fp) (hnd : fp.Nodup) (hi : xs[i]? = some x) : w.cell? ⟨g, i * 2, none⟩ = some (.string x.Name) ∧ w.cell? ⟨g, i * 2 + 1, none⟩ = some (.string x.Value) := by
  obtain ⟨cs, fx, hown, _, _, hc, _⟩ := h.inner hnd hi
  obtain ⟨rfl, _⟩ := rLabel_own hown
  exact ⟨hc 0 _ rfl, hc 1 _ rfl⟩
theorem rItem_get {w : World} {B : Nat} {l : List Item} {A : Option Addr} {n c k : Nat} (h : Mm.SlAt rItem w B l A n c) (hk : k < n) :
    ∃ x b off A' n' c', l[k]? = some x ∧ A = some ⟨b, off, none⟩ ∧ b < B ∧ Mm.SlAt rLabel w B x.Labels A' n' c' ∧ Mm.I64 x.Value ∧ w.cell? ⟨b, off + k * 2, none⟩ = some (.slice A' n' c') ∧ w.cell? ⟨b, off + k * 2 + 1, none⟩ = some (.int .i64 x.Value) := by
  obtain ⟨x, b, off, cs, hx, hA, hb, ha, hc⟩ := h.get hk
  obtain ⟨A', n', c', rfl, g0, g1⟩ := rItem_at ha
  exact ⟨x, b, off, A', n', c', hx, hA, hb, g0, g1, hc 0 _ rfl, hc 1 _ rfl⟩
theorem rItem_get' {w : World} {B : Nat} {l : List Item} {b off n c k : Nat} (h : Mm.SlAt rItem w B l (some ⟨b, off, none⟩) n c) (hk : k < n) :
    ∃ x A' n' c', l[k]? = some x ∧ b < B ∧ Mm.SlAt rLabel w B x.Labels A' n' c' ∧ Mm.I64 x.Value ∧ w.cell? ⟨b, off + k * 2, none⟩ = some (.slice A' n' c') ∧ w.cell? ⟨b, off + k * 2 + 1, none⟩ = some (.int .i64 x.Value) := by
  obtain ⟨x, cs, hx, hb, ha, hc⟩ := h.get' hk
  obtain ⟨A', n', c', rfl, g0, g1⟩ := rItem_at ha
  exact ⟨x, A', n', c', hx, hb, g0, g1, hc 0 _ rfl, hc 1 _ rfl⟩
theorem rItem_ocell {w : World} {e : TypeId} {xs : List Item} {g n c i : Nat} {x : Item} {fp : List Nat} (h : Mm.SlOwn rItem e w xs (.slice (some ⟨g, 0, none⟩) n c) fp) (hnd : fp.Nodup) (hi : xs[i]? = some x) : ∃ A' n' c', w.cell? ⟨g, i * 2, none⟩ = some (.slice A' n' c') ∧ w.cell? ⟨g, i * 2 + 1, none⟩ = some (.int .i64 x.Value) := by
  obtain ⟨cs, fx, hown, _, _, hc, _⟩ := h.inner hnd hi
  obtain ⟨A', n', c', _, rfl, _⟩ := rItem_own hown
  exact ⟨A', n', c', hc 0 _ rfl, hc 1 _ rfl⟩
theorem rTotal_get {w : World} {B : Nat} {l : List Total} {A : Option Addr} {n c k : Nat} (h : Mm.SlAt rTotal w B l A n c) (hk : k < n) :
    ∃ x b off A' n' c', l[k]? = some x ∧ A = some ⟨b, off, none⟩ ∧ b < B ∧ Mm.SlAt rLabel w B x.Labels A' n' c' ∧ Mm.I64 x.Sum ∧ Mm.I64 x.Count ∧ Mm.I64 x.Least ∧ Mm.I64 x.Most ∧ w.cell? ⟨b, off + k * 5, none⟩ = some (.slice A' n' c') ∧ w.cell? ⟨b, off + k * 5 + 1, none⟩ = some (.int .i64 x.Sum) ∧ w.cell? ⟨b, off + k * 5 + 2, none⟩ = some (.int .i64 x.Count) ∧ w.cell? ⟨b, off + k * 5 + 3, none⟩ = some (.int .i64 x.Least) ∧ w.cell? ⟨b, off + k * 5 + 4, none⟩ = some (.int .i64 x.Most) := by
  obtain ⟨x, b, off, cs, hx, hA, hb, ha, hc⟩ := h.get hk
  obtain ⟨A', n', c', rfl, g0, g1, g2, g3, g4⟩ := rTotal_at ha
  exact ⟨x, b, off, A', n', c', hx, hA, hb, g0, g1, g2, g3, g4, hc 0 _ rfl, hc 1 _ rfl, hc 2 _ rfl, hc 3 _ rfl, hc 4 _ rfl⟩
theorem rTotal_get' {w : World} {B : Nat} {l : List Total} {b off n c k : Nat} (h : Mm.SlAt rTotal w B l (some ⟨b, off, none⟩) n c) (hk : k < n) :
    ∃ x A' n' c', l[k]? = some x ∧ b < B ∧ Mm.SlAt rLabel w B x.Labels A' n' c' ∧ Mm.I64 x.Sum ∧ Mm.I64 x.Count ∧ Mm.I64 x.Least ∧ Mm.I64 x.Most ∧ w.cell? ⟨b, off + k * 5, none⟩ = some (.slice A' n' c') ∧ w.cell? ⟨b, off + k * 5 + 1, none⟩ = some (.int .i64 x.Sum) ∧ w.cell? ⟨b, off + k * 5 + 2, none⟩ = some (.int .i64 x.Count) ∧ w.cell? ⟨b, off + k * 5 + 3, none⟩ = some (.int .i64 x.Least) ∧ w.cell? ⟨b, off + k * 5 + 4, none⟩ = some (.int .i64 x.Most) := by
  obtain ⟨x, cs, hx, hb, ha, hc⟩ := h.get' hk
  obtain ⟨A', n', c', rfl, g0, g1, g2, g3, g4⟩ := rTotal_at ha
  exact ⟨x, A', n', c', hx, hb, g0, g1, g2, g3, g4, hc 0 _ rfl, hc 1 _ rfl, hc 2 _ rfl, hc 3 _ rfl, hc 4 _ rfl⟩
theorem rTotal_ocell {w : World} {e : TypeId} {xs : List Total} {g n c i : Nat} {x : Total} {fp : List Nat} (h : Mm.SlOwn rTotal e w xs (.slice (some ⟨g, 0, none⟩) n c) fp) (hnd : fp.Nodup) (hi : xs[i]? = some x) : ∃ A' n' c', w.cell? ⟨g, i * 5, none⟩ = some (.slice A' n' c') ∧ w.cell? ⟨g, i * 5 + 1, none⟩ = some (.int .i64 x.Sum) ∧ w.cell? ⟨g, i * 5 + 2, none⟩ = some (.int .i64 x.Count) ∧ w.cell? ⟨g, i * 5 + 3, none⟩ = some (.int .i64 x.Least) ∧ w.cell? ⟨g, i * 5 + 4, none⟩ = some (.int .i64 x.Most) := by
  obtain ⟨cs, fx, hown, _, _, hc, _⟩ := h.inner hnd hi
  obtain ⟨A', n', c', _, rfl, _⟩ := rTotal_own hown
  exact ⟨A', n', c', hc 0 _ rfl, hc 1 _ rfl, hc 2 _ rfl, hc 3 _ rfl, hc 4 _ rfl⟩
end Go.Proofs.Ytnppcdiicnofpab
