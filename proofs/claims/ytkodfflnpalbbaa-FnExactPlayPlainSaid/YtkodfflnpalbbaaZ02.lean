/-
  Joined texts, in build order: Se, Sf, Sx, In, Ik, K0, Wa, Iy. Each part says what it proves; no conditions beyond those that a part names.
-/
import Derived.Test.YtkodfflnpalbbaaZ01
import Derived.Shelf.Spec.SlicesInsertGrow
import Derived.Lib.AppendZerosOnto
import Derived.Lib.Overlaps
import Derived.Lib.Bytealg
import Derived.Test.YtkodfflnpalbbaaRows
import Derived.WalkKit
import Derived.WalkLawsBesides
import Derived.WalkSpells
import Derived.Outline
import Derived.IntWalk
import Derived.Lib.Hide
import Derived.Deep.DeepCutAuto
/-
  What a call owns: a list of things in memory, no block twice, all of them new since the call began; how the list goes on when one of them is changed. No program in sight. No conditions.
-/
namespace Go.Proofs.Ytkodfflnpalbbaa
open Go.RowKit
namespace Mm
structure Thing where
  fp : List Nat
  holds : World → Prop
  keep : ∀ {w w' : World}, holds w → (∀ b, b ∈ fp → w'.heap[b]? = w.heap[b]?) → holds w'
  lt : ∀ {w : World}, holds w → ∀ b, b ∈ fp → b < w.heap.size
def tblk (g : Nat) (t : TypeId) (cs : List Value) : Thing := ⟨[g], fun w => Blk w g t cs, fun h k => h.keep (k g (by simp)), fun h b hb => by rw [List.mem_singleton.1 hb]; exact h.lt⟩
def tsl {α : Type} (E : Rep α) (e : TypeId) (xs : List α) (v : Value) (fp : List Nat) : Thing := ⟨fp, fun w => SlOwn E e w xs v fp, fun h k => h.okeep k, fun h => h.olt⟩
def tow {α : Type} (R : Rep α) (x : α) (cs : List Value) (fp : List Nat) : Thing := ⟨fp, fun w => R.own w x cs fp, fun h k => R.okeep h k, fun h => R.olt h⟩
def tnil : Thing := ⟨[], fun _ => True, fun _ _ => trivial, fun _ b hb => by cases hb⟩

structure Sep (w0 wr : World) (ts : List Thing) : Prop where
  bel : Below w0.heap.size w0 wr
  nd : (ts.flatMap (·.fp)).Nodup
  new : ∀ b, b ∈ ts.flatMap (·.fp) → w0.heap.size ≤ b
  hold : ∀ t, t ∈ ts → t.holds wr

theorem flat_split {β γ : Type} (f : β → List γ) {l : List β} {i : Nat} {x : β} (h : l[i]? = some x) (y : β) :
    l.flatMap f = (l.take i).flatMap f ++ (f x ++ (l.drop (i + 1)).flatMap f) ∧ (l.set i y).flatMap f = (l.take i).flatMap f ++ (f y ++ (l.drop (i + 1)).flatMap f) := by
  obtain ⟨hi, hx⟩ := List.getElem?_eq_some_iff.1 h
  subst hx
  constructor
  · conv => lhs; rw [show l = l.take i ++ l[i] :: l.drop (i + 1) by rw [← List.drop_eq_getElem_cons hi, List.take_append_drop]]
    rw [List.flatMap_append, List.flatMap_cons]
  · rw [List.set_eq_take_append_cons_drop, if_pos hi, List.flatMap_append, List.flatMap_cons]

section
variable {w0 wr W : World} {ts : List Thing} {t t' s : Thing} {i j : Nat}
theorem Sep.start (w : World) : Sep w w [] := ⟨Below.refl _ _, by simp, by simp, by simp⟩
theorem Sep.start' {w W : World} (h : Below w.heap.size w W) : Sep w W [] := ⟨h, by simp, by simp, by simp⟩
theorem Sep.at_ (h : Sep w0 wr ts) (i : Nat) (hi : ts[i]? = some t) : t.holds wr := h.hold t (List.mem_of_getElem? hi)
theorem Sep.mem (hi : ts[i]? = some t) {b : Nat} (hb : b ∈ t.fp) : b ∈ ts.flatMap (·.fp) := List.mem_flatMap.2 ⟨t, List.mem_of_getElem? hi, hb⟩
theorem Sep.lt (h : Sep w0 wr ts) : ∀ b, b ∈ ts.flatMap (·.fp) → b < wr.heap.size := fun b hb => by
  obtain ⟨t, ht, hb⟩ := List.mem_flatMap.1 hb
  exact t.lt (h.hold t ht) b hb
theorem Sep.ndat (h : Sep w0 wr ts) (hi : ts[i]? = some t) : t.fp.Nodup := by
  have := h.nd
  rw [(flat_split (·.fp) hi t).1] at this
  exact ((List.nodup_append.1 this).2.1 |> List.nodup_append.1).1
theorem Sep.apart (h : Sep w0 wr ts) (hi : ts[i]? = some t) (hj : ts[j]? = some s) (hij : i ≠ j) : ∀ b, b ∈ t.fp → b ∉ s.fp := by
  have hnd := h.nd
  rw [(flat_split (·.fp) hi t).1, List.nodup_append, List.nodup_append] at hnd
  intro b hb hs
  rcases Nat.lt_or_gt_of_ne hij with h1 | h1
  · refine hnd.2.1.2.2 b hb b (List.mem_flatMap.2 ⟨s, List.mem_of_getElem? (i := j - (i + 1)) ?_, hs⟩) rfl
    rw [List.getElem?_drop, show i + 1 + (j - (i + 1)) = j by omega]; exact hj
  · refine hnd.2.2 b (List.mem_flatMap.2 ⟨s, List.mem_of_getElem? (i := j) ?_, hs⟩) b (List.mem_append_left _ hb) rfl
    rw [List.getElem?_take, if_pos h1]; exact hj
theorem Sep.step (h : Sep w0 wr ts) (hb : Below wr.heap.size wr W) : Sep w0 W ts :=
  ⟨below_step h.bel hb, h.nd, h.new, fun t ht => t.keep (h.hold t ht) fun b hb' => hb.block b (h.lt b (List.mem_flatMap.2 ⟨t, ht, hb'⟩))⟩
theorem Sep.add (h : Sep w0 wr ts) (hb : Below wr.heap.size wr W) (ht : t.holds W) (hnd : t.fp.Nodup) (hnew : ∀ b, b ∈ t.fp → wr.heap.size ≤ b) : Sep w0 W (t :: ts) := by
  have h1 := h.step hb
  refine ⟨h1.bel, ?_, fun b hb' => ?_, fun u hu => ?_⟩
  · rw [List.flatMap_cons, List.nodup_append]
    exact ⟨hnd, h.nd, fun a ha b hb' e => by subst e; have := hnew a ha; have := h.lt a hb'; omega⟩
  · rw [List.flatMap_cons] at hb'
    rcases List.mem_append.1 hb' with hb' | hb'
    · have := hnew b hb'; have := h.bel.size; omega
    · exact h.new b hb'
  · rcases List.mem_cons.1 hu with rfl | hu
    · exact ht
    · exact h1.hold u hu
theorem Sep.alloc (h : Sep w0 wr ts) (t : TypeId) (cs : List Value) : Sep w0 (wr.alloc (.cells cs.toArray t)) (tblk wr.heap.size t cs :: ts) :=
  h.add (below_new (Below.refl _ _) _) (Blk.new wr t cs) (by simp [tblk]) (by simp [tblk])
theorem Sep.alloc' {g : Nat} (h : Sep w0 wr ts) (hg : wr.heap.size = g) (t : TypeId) (cs : List Value) : Sep w0 (wr.alloc (.cells cs.toArray t)) (tblk g t cs :: ts) := by subst hg; exact h.alloc t cs
/-- thing number i has been changed, and nothing else that was there -/
theorem Sep.upd (h : Sep w0 wr ts) (hi : ts[i]? = some t) (hc : Chg t.fp wr W) (ht : t'.holds W) (hnd : t'.fp.Nodup) (hsub : ∀ b, b ∈ t'.fp → b ∈ t.fp ∨ wr.heap.size ≤ b) : Sep w0 W (ts.set i t') := by
  have hs := flat_split (·.fp) hi t'
  have hN := h.nd
  rw [hs.1, List.nodup_append, List.nodup_append] at hN
  have hL := h.lt
  rw [hs.1] at hL
  refine ⟨Below.chg h.bel hc h.bel.size (fun x hx => h.new x (Sep.mem hi hx)), ?_, ?_, ?_⟩
  · rw [hs.2, List.nodup_append, List.nodup_append]
    refine ⟨hN.1, ⟨hnd, hN.2.1.2.1, fun a ha b hb e => ?_⟩, fun a ha b hb e => ?_⟩
    · subst e
      rcases hsub a ha with h1 | h1
      · exact hN.2.1.2.2 a h1 a hb rfl
      · have := hL a (List.mem_append_right _ (List.mem_append_right _ hb)); omega
    · subst e
      rcases List.mem_append.1 hb with hb | hb
      · rcases hsub a hb with h1 | h1
        · exact hN.2.2 a ha a (List.mem_append_left _ h1) rfl
        · have := hL a (List.mem_append_left _ ha); omega
      · exact hN.2.2 a ha a (List.mem_append_right _ hb) rfl
  · intro b hb
    obtain ⟨u, hu, hb2⟩ := List.mem_flatMap.1 hb
    rcases List.mem_or_eq_of_mem_set hu with h1 | h1
    · exact h.new b (List.mem_flatMap.2 ⟨u, h1, hb2⟩)
    · rw [h1] at hb2
      rcases hsub b hb2 with h1 | h1
      · exact h.new b (Sep.mem hi h1)
      · have := h.bel.size; omega
  · intro u hu
    obtain ⟨k, hk⟩ := List.mem_iff_getElem?.1 hu
    by_cases hik : i = k
    · subst hik
      rw [List.getElem?_set_self (List.getElem?_eq_some_iff.1 hi).1] at hk
      injection hk with hk
      subst hk
      exact ht
    · rw [List.getElem?_set_ne hik] at hk
      have hu' := h.hold u (List.mem_of_getElem? hk)
      exact u.keep hu' fun b hb => hc.block b (u.lt hu' b hb) (fun hm => h.apart hi hk hik b hm hb)
/-- things i and j have been changed into one -/
theorem Sep.upd2 (h : Sep w0 wr ts) (hij : i ≠ j) (hi : ts[i]? = some t) (hj : ts[j]? = some s) (hc : Chg (t.fp ++ s.fp) wr W) (ht : t'.holds W) (hnd : t'.fp.Nodup) (hsub : ∀ b, b ∈ t'.fp → b ∈ t.fp ∨ b ∈ s.fp ∨ wr.heap.size ≤ b) :
    Sep w0 W ((ts.set j tnil).set i t') := by
  -- first the two are one thing, at i
  have hji : (ts.set j tnil)[i]? = some t := by rw [List.getElem?_set_ne (Ne.symm hij)]; exact hi
  have h1 : Sep w0 wr ((ts.set j tnil).set i ⟨t.fp ++ s.fp, fun w => t.holds w ∧ s.holds w, fun hh k => ⟨t.keep hh.1 fun b hb => k b (List.mem_append_left _ hb), s.keep hh.2 fun b hb => k b (List.mem_append_right _ hb)⟩,
      fun hh b hb => (List.mem_append.1 hb).elim (t.lt hh.1 b) (s.lt hh.2 b)⟩) := by
    have h2 : Sep w0 wr (ts.set j tnil) := h.upd hj (Chg.refl _ _) trivial (by simp [tnil]) (fun b hb => by cases hb)
    have ha := h.apart hi hj hij
    have hns := h.ndat hj
    have hs := flat_split (·.fp) hji ⟨t.fp ++ s.fp, fun w => t.holds w ∧ s.holds w, fun hh k => ⟨t.keep hh.1 fun b hb => k b (List.mem_append_left _ hb), s.keep hh.2 fun b hb => k b (List.mem_append_right _ hb)⟩,
      fun hh b hb => (List.mem_append.1 hb).elim (t.lt hh.1 b) (s.lt hh.2 b)⟩
    have hN := h2.nd
    rw [hs.1, List.nodup_append, List.nodup_append] at hN
    have hap : ∀ b, b ∈ s.fp → b ∉ (ts.set j tnil).flatMap (·.fp) := fun b hb hm => by
      obtain ⟨u, hu, hb'⟩ := List.mem_flatMap.1 hm
      obtain ⟨k, hk⟩ := List.mem_iff_getElem?.1 hu
      by_cases hjk : j = k
      · subst hjk
        rw [List.getElem?_set_self (List.getElem?_eq_some_iff.1 hj).1] at hk
        injection hk with hk
        subst hk
        cases hb'
      · rw [List.getElem?_set_ne hjk] at hk
        exact h.apart hj hk hjk b hb hb'
    rw [hs.1] at hap
    refine ⟨h2.bel, ?_, ?_, ?_⟩
    · rw [hs.2, List.nodup_append, List.nodup_append]
      refine ⟨hN.1, ⟨?_, hN.2.1.2.1, fun a ha' b hb e => ?_⟩, fun a ha' b hb e => ?_⟩
      · show (t.fp ++ s.fp).Nodup
        rw [List.nodup_append]
        exact ⟨hN.2.1.1, hns, fun a h3 b h4 e => by subst e; exact ha a h3 h4⟩
      · subst e
        rcases List.mem_append.1 ha' with h3 | h3
        · exact hN.2.1.2.2 a h3 a hb rfl
        · exact hap a h3 (List.mem_append_right _ (List.mem_append_right _ hb))
      · subst e
        rcases List.mem_append.1 hb with hb | hb
        · rcases List.mem_append.1 hb with h3 | h3
          · exact hN.2.2 a ha' a (List.mem_append_left _ h3) rfl
          · exact hap a h3 (List.mem_append_left _ ha')
        · exact hN.2.2 a ha' a (List.mem_append_right _ hb) rfl
    · intro b hb
      rw [hs.2] at hb
      rcases List.mem_append.1 hb with hb | hb
      · exact h2.new b (by rw [hs.1]; exact List.mem_append_left _ hb)
      · rcases List.mem_append.1 hb with hb | hb
        · rcases List.mem_append.1 hb with h3 | h3
          · exact h.new b (Sep.mem hi h3)
          · exact h.new b (Sep.mem hj h3)
        · exact h2.new b (by rw [hs.1]; exact List.mem_append_right _ (List.mem_append_right _ hb))
    · intro u hu
      rcases List.mem_or_eq_of_mem_set hu with h3 | rfl
      · exact h2.hold u h3
      · exact ⟨h.at_ i hi, h.at_ j hj⟩
  have hlt : i < (ts.set j tnil).length := (List.getElem?_eq_some_iff.1 hji).1
  have h3 := h1.upd (i := i) (List.getElem?_set_self hlt) hc ht hnd (fun b hb => by
    rcases hsub b hb with h | h | h
    · exact .inl (List.mem_append_left _ h)
    · exact .inl (List.mem_append_right _ h)
    · exact .inr h)
  rwa [List.set_set] at h3
end
section
variable {w0 wr W2 : World} {ts : List Thing} {s : Thing} {i j : Nat}
theorem Sep.setBlk {g k : Nat} {t : TypeId} {cs : List Value} (h : Sep w0 wr ts) (i : Nat) (hi : ts[i]? = some (tblk g t cs)) (u : Value) : Sep w0 (wr.setCell ⟨g, k, none⟩ u) (ts.set i (tblk g t (cs.set k u))) :=
  h.upd hi ((Chg.refl _ _).setCell (by simp [tblk]) u) ((show Blk wr g t cs from h.at_ i hi).set_ k u) (by simp [tblk]) (fun b hb => .inl hb)
variable {α : Type} {E : Rep α} {e : TypeId} {xs : List α} {v : Value} {fp : List Nat} {x : α} {cx : List Value}
theorem Sep.putSl {g n c k m : Nat} {x x' : α} {u : Value} (h : Sep w0 wr ts) (i : Nat) (hi : ts[i]? = some (tsl E e xs (.slice (some ⟨g, 0, none⟩) n c) fp)) (hk : xs[k]? = some x) (hm : m < E.size) (hx : ∀ cs fx, E.own wr x cs fx → E.own wr x' (cs.set m u) fx) :
    Sep w0 (wr.setCell ⟨g, k * E.size + m, none⟩ u) (ts.set i (tsl E e (xs.set k x') (.slice (some ⟨g, 0, none⟩) n c) fp)) := by
  have h1 : SlOwn E e wr xs (.slice (some ⟨g, 0, none⟩) n c) fp := h.at_ i hi
  have hnd : fp.Nodup := h.ndat hi
  exact h.upd hi ((Chg.refl _ _).setCell h1.mem_block u) (h1.store hnd hk hm hx) hnd (fun b hb => .inl hb)
theorem row_in {w : World} (h : SlOwn E e w xs v fp) {k : Nat} (hk : v.ownBlock = some k) : k ∈ fp := by
  obtain ⟨es, _, _, rfl⟩ := h
  exact List.mem_append_left _ (by rw [hk]; simp)
theorem Sep.put1 {g n c k : Nat} {x x' : α} {u : Value} (h : Sep w0 wr ts) (i : Nat) (hi : ts[i]? = some (tsl E e xs (.slice (some ⟨g, 0, none⟩) n c) fp)) (hE : E.size = 1) (hk : xs[k]? = some x) (hx : ∀ cs fx, E.own wr x cs fx → E.own wr x' [u] fx) :
    Sep w0 (wr.setCell ⟨g, k, none⟩ u) (ts.set i (tsl E e (xs.set k x') (.slice (some ⟨g, 0, none⟩) n c) fp)) := by
  have h1 := h.putSl (m := 0) (u := u) (x' := x') i hi hk (by omega) (fun cs fx ho => by
    have hl := E.olen ho
    rw [hE] at hl
    obtain ⟨a, rfl⟩ := List.length_eq_one_iff.1 hl
    exact hx _ _ ho)
  rwa [show k * E.size + 0 = k by rw [hE]; omega] at h1
theorem Sep.tail {t : Thing} (h : Sep w0 wr (t :: ts)) : Sep w0 wr ts := ⟨h.bel, by have := h.nd; rw [List.flatMap_cons, List.nodup_append] at this; exact this.2.1, fun b hb => h.new b (by rw [List.flatMap_cons]; exact List.mem_append_right _ hb), fun t ht => h.hold t (List.mem_cons_of_mem _ ht)⟩
theorem sl_addr {w : World} {A : Option Addr} {n c : Nat} (h : SlOwn E e w xs (.slice A n c) fp) (h0 : 0 < xs.length) : ∃ g, A = some ⟨g, 0, none⟩ ∧ g ∈ fp ∧ n = xs.length := by
  obtain ⟨A', n', c', hv, hn, _⟩ := h.form
  injection hv with h1 h2 h3
  have hm := fun g (hg : (Value.slice A n c).ownBlock = some g) => row_in h hg
  obtain ⟨es, he, ho, rfl⟩ := h
  obtain ⟨g, cap, hf, _⟩ := ho.form h0
  injection hf with hA
  subst hA
  exact ⟨g, rfl, hm g rfl, by omega⟩
theorem Sep.own0 (h : Sep w0 wr ts) (i : Nat) (hi : ts[i]? = some (tsl E e xs v fp)) : SlOwn E e wr xs v fp ∧ fp.Nodup ∧ (∀ b, b ∈ fp → w0.heap.size ≤ b) ∧ Below w0.heap.size w0 wr :=
  ⟨h.at_ i hi, h.ndat hi, fun b hb => h.new b (Sep.mem hi hb), h.bel⟩
/-- append, the new element a thing of the list -/
theorem Sep.push (h : Sep w0 wr ts) (i j : Nat) (hij : i ≠ j) (hi : ts[i]? = some (tsl E e xs v fp)) (hj : ts[j]? = some s) (hb : Below wr.heap.size wr W2) (hx : ∀ W, s.holds W → E.own W x cx s.fp) :
    ∃ l, W2.ownsRow 0 e E.size v xs.length l ∧ ∀ gg cap w1, w1.ownsRow 0 e E.size (.slice (some ⟨gg, 0, none⟩) (xs.length + 1) cap) (xs.length + 1) (l ++ cx) → W2.grownBy w1 v.ownBlock → (v.ownBlock = some gg ∨ gg = W2.heap.size) →
      ∃ fp', Sep w0 w1 ((ts.set j tnil).set i (tsl E e (xs ++ [x]) (.slice (some ⟨gg, 0, none⟩) (xs.length + 1) cap) fp')) := by
  have h2 := h.step hb
  have ho : SlOwn E e W2 xs v fp := h2.at_ i hi
  have hs := hx _ (h2.at_ j hj)
  obtain ⟨l, k1, k2⟩ := ho.push hs (h2.ndat hi) (h2.ndat hj) (fun b hb hm => h2.apart hi hj hij b hm hb)
  refine ⟨l, k1, fun gg cap w1 g1 g2 g3 => ?_⟩
  obtain ⟨fp', m1, m2, m3⟩ := k2 _ w1 g1 g2 (g3.elim (fun h => .inl h.symm) (fun h => .inr (by rw [h]; rfl)))
  refine ⟨fp', h2.upd2 hij hi hj ?_ m1 m2 (fun b hb => ?_)⟩
  · exact ⟨g2.os, g2.tape, g2.output, g2.size, fun k hk hn => g2.block k hk (fun hh => hn (List.mem_append_left _ (row_in ho hh.symm)))⟩
  · rcases m3 b hb with h | h | h
    · exact .inl h
    · exact .inr (.inl h)
    · exact .inr (.inr (by omega))
/-- append, the new element leads nowhere -/
theorem Sep.push0 (h : Sep w0 wr ts) (i : Nat) (hi : ts[i]? = some (tsl E e xs v fp)) (hb : Below wr.heap.size wr W2) (hx : E.own W2 x cx []) :
    ∃ l, W2.ownsRow 0 e E.size v xs.length l ∧ ∀ gg cap w1, w1.ownsRow 0 e E.size (.slice (some ⟨gg, 0, none⟩) (xs.length + 1) cap) (xs.length + 1) (l ++ cx) → W2.grownBy w1 v.ownBlock → (v.ownBlock = some gg ∨ gg = W2.heap.size) →
      ∃ fp', Sep w0 w1 (ts.set i (tsl E e (xs ++ [x]) (.slice (some ⟨gg, 0, none⟩) (xs.length + 1) cap) fp')) := by
  have h2 := h.step hb
  have ho : SlOwn E e W2 xs v fp := h2.at_ i hi
  obtain ⟨l, k1, k2⟩ := ho.push hx (h2.ndat hi) List.nodup_nil (fun b hb => by cases hb)
  refine ⟨l, k1, fun gg cap w1 g1 g2 g3 => ?_⟩
  obtain ⟨fp', m1, m2, m3⟩ := k2 _ w1 g1 g2 (g3.elim (fun h => .inl h.symm) (fun h => .inr (by rw [h]; rfl)))
  refine ⟨fp', h2.upd hi ?_ m1 m2 (fun b hb => ?_)⟩
  · exact ⟨g2.os, g2.tape, g2.output, g2.size, fun k hk hn => g2.block k hk (fun hh => hn (row_in ho hh.symm))⟩
  · rcases m3 b hb with h | h | h
    · exact .inl h
    · cases h
    · exact .inr (by omega)
/-- the inside of element k is changed -/
theorem Sep.putIn {g n c k : Nat} (h : Sep w0 wr ts) (i : Nat) (hi : ts[i]? = some (tsl E e xs (.slice (some ⟨g, 0, none⟩) n c) fp)) (hk : xs[k]? = some x) :
    ∃ cs fx, E.own wr x cs fx ∧ fx.Nodup ∧ (∀ b, b ∈ fx → b ∈ fp ∧ b ≠ g) ∧ (∀ j u, cs[j]? = some u → wr.cell? ⟨g, k * E.size + j, none⟩ = some u) ∧
      ∀ W x' fx', Chg fx wr W → E.own W x' cs fx' → fx'.Nodup → (∀ b, b ∈ fx' → b ∈ fx) → ∃ fp', Sep w0 W (ts.set i (tsl E e (xs.set k x') (.slice (some ⟨g, 0, none⟩) n c) fp')) := by
  have h1 : SlOwn E e wr xs (.slice (some ⟨g, 0, none⟩) n c) fp := h.at_ i hi
  obtain ⟨cs, fx, k1, k2, k3, k4, k5⟩ := h1.inner (h.ndat hi) hk
  refine ⟨cs, fx, k1, k2, k3, k4, fun W x' fx' m1 m2 m3 m4 => ?_⟩
  obtain ⟨fp', p1, p2, p3⟩ := k5 W x' fx' m1 m2 m3 m4
  exact ⟨fp', h.upd hi (m1.more fun b hb => (k3 b hb).1) p1 p2 (fun b hb => .inl (p3 b hb))⟩
theorem SlOwn.store1 {g n c k : Nat} {w : World} {x' : α} {u : Value} (h : SlOwn E e w xs (.slice (some ⟨g, 0, none⟩) n c) fp) (hnd : fp.Nodup) (hE : E.size = 1) (hk : xs[k]? = some x) (hx : ∀ cs fx, E.own w x cs fx → E.own w x' [u] fx) :
    SlOwn E e (w.setCell ⟨g, k, none⟩ u) (xs.set k x') (.slice (some ⟨g, 0, none⟩) n c) fp := by
  have h1 := h.store (j := 0) (u := u) (x' := x') hnd hk (by omega) (fun cs fx ho => by
    have hl := E.olen ho
    rw [hE] at hl
    obtain ⟨a, rfl⟩ := List.length_eq_one_iff.1 hl
    exact hx _ _ ho)
  rwa [show k * E.size + 0 = k by rw [hE]; omega] at h1
/-- what block i holds -/
theorem Sep.cell {g k : Nat} {t : TypeId} {cs : List Value} {u : Value} (h : Sep w0 wr ts) (i : Nat) (hi : ts[i]? = some (tblk g t cs)) (hu : cs[k]? = some u) : wr.cell? ⟨g, k, none⟩ = some u := (show Blk wr g t cs from h.at_ i hi).cell hu
theorem Sep.frz {g k : Nat} {t : TypeId} {cs : List Value} (h : Sep w0 wr ts) (i : Nat) (hi : ts[i]? = some (tblk g t cs)) : wr.frozen? ⟨g, k, none⟩ = false := (show Blk wr g t cs from h.at_ i hi).frozen k
theorem Sep.blk {g : Nat} {t : TypeId} {cs : List Value} (h : Sep w0 wr ts) (i : Nat) (hi : ts[i]? = some (tblk g t cs)) : g < wr.heap.size ∧ w0.heap.size ≤ g := ⟨(show Blk wr g t cs from h.at_ i hi).lt, h.new g (Sep.mem hi (by simp [tblk]))⟩
theorem Sep.sl (h : Sep w0 wr ts) (i : Nat) (hi : ts[i]? = some (tsl E e xs v fp)) : SlOwn E e wr xs v fp := h.at_ i hi
theorem Sep.slnew (h : Sep w0 wr ts) (i : Nat) (hi : ts[i]? = some (tsl E e xs v fp)) : ∀ b, b ∈ fp → w0.heap.size ≤ b ∧ b < wr.heap.size := fun b hb => ⟨h.new b (Sep.mem hi hb), (show SlOwn E e wr xs v fp from h.at_ i hi).olt b hb⟩
theorem Sep.rowne {g : Nat} {t : TypeId} {cs : List Value} (h : Sep w0 wr ts) (i j : Nat) (hi : ts[i]? = some (tsl E e xs v fp)) (hj : ts[j]? = some (tblk g t cs)) (hij : i ≠ j) : some g ≠ v.ownBlock := fun hh => h.apart hi hj hij g (row_in (h.sl i hi) hh.symm) (by simp [tblk])
end
end Mm
end Go.Proofs.Ytkodfflnpalbbaa

/-
  The same as 'Sep', where the call was handed things that it may change: F, the blocks that came in with them. No program in sight. No conditions.
-/
namespace Go.Proofs.Ytkodfflnpalbbaa
open Go.RowKit
namespace Mm
structure SepF (F : List Nat) (w0 wr : World) (ts : List Thing) : Prop where
  chg : Chg F w0 wr
  nd : (ts.flatMap (·.fp)).Nodup
  new : ∀ b, b ∈ ts.flatMap (·.fp) → b ∈ F ∨ w0.heap.size ≤ b
  hold : ∀ t, t ∈ ts → t.holds wr
/-- a struct behind a pointer -/
def tptr {α : Type} (R : Rep α) (t : TypeId) (g : Nat) (x : α) (fp : List Nat) : Thing :=
  ⟨g :: fp, fun w => ∃ cs, Blk w g t cs ∧ R.own w x cs fp, fun ⟨cs, h1, h2⟩ k => ⟨cs, h1.keep (k g (by simp)), R.okeep h2 fun b hb => k b (List.mem_cons_of_mem _ hb)⟩,
    fun ⟨cs, h1, h2⟩ b hb => by
      rcases List.mem_cons.1 hb with rfl | hb
      · exact h1.lt
      · exact R.olt h2 b hb⟩
/-- what a call leaves of a thing that it was handed -/
def Left (F : List Nat) (w w' : World) (t : Thing) : Prop := Chg F w w' ∧ t.fp.Nodup ∧ (∀ b, b ∈ t.fp → b ∈ F ∨ w.heap.size ≤ b) ∧ t.holds w'
section
variable {F : List Nat} {w0 wr W : World} {ts : List Thing} {t t' s : Thing} {i j : Nat}
theorem SepF.one (t : Thing) (w : World) (h : t.holds w) (hn : t.fp.Nodup) : SepF t.fp w w [t] := ⟨Chg.refl _ _, by simpa using hn, fun b hb => .inl (by simpa using hb), fun u hu => by rw [List.mem_singleton.1 hu]; exact h⟩
theorem SepF.conv {us : List Thing} (h : SepF F w0 wr ts) (hp : (us.flatMap (·.fp)).Perm (ts.flatMap (·.fp))) (hh : ∀ u, u ∈ us → u.holds wr) : SepF F w0 wr us :=
  ⟨h.chg, hp.nodup_iff.2 h.nd, fun b hb => h.new b (hp.mem_iff.1 hb), hh⟩
theorem SepF.chgon (h : SepF F w0 wr ts) (hi : ts[i]? = some t) (hc : Chg t.fp wr W) : Chg F w0 W := by
  refine ⟨hc.os.trans h.chg.os, hc.tape.trans h.chg.tape, hc.output.trans h.chg.output, Nat.le_trans h.chg.size hc.size, fun k hk hn => ?_⟩
  have hkw : k < wr.heap.size := Nat.lt_of_lt_of_le hk h.chg.size
  refine (hc.block k hkw fun hm => ?_).trans (h.chg.block k hk hn)
  rcases h.new k (List.mem_flatMap.2 ⟨t, List.mem_of_getElem? hi, hm⟩) with h1 | h1
  · exact hn h1
  · omega
theorem SepF.left (h : SepF F w0 wr [t]) : Left F w0 wr t := ⟨h.chg, by simpa using h.nd, fun b hb => h.new b (by simpa using hb), h.hold t (by simp)⟩
theorem SepF.at_ (h : SepF F w0 wr ts) (i : Nat) (hi : ts[i]? = some t) : t.holds wr := h.hold t (List.mem_of_getElem? hi)
theorem SepF.mem (hi : ts[i]? = some t) {b : Nat} (hb : b ∈ t.fp) : b ∈ ts.flatMap (·.fp) := List.mem_flatMap.2 ⟨t, List.mem_of_getElem? hi, hb⟩
theorem SepF.lt (h : SepF F w0 wr ts) : ∀ b, b ∈ ts.flatMap (·.fp) → b < wr.heap.size := fun b hb => by
  obtain ⟨t, ht, hb⟩ := List.mem_flatMap.1 hb
  exact t.lt (h.hold t ht) b hb
theorem SepF.ndat (h : SepF F w0 wr ts) (hi : ts[i]? = some t) : t.fp.Nodup := by
  have := h.nd
  rw [(flat_split (·.fp) hi t).1] at this
  exact ((List.nodup_append.1 this).2.1 |> List.nodup_append.1).1
theorem SepF.apart (h : SepF F w0 wr ts) (hi : ts[i]? = some t) (hj : ts[j]? = some s) (hij : i ≠ j) : ∀ b, b ∈ t.fp → b ∉ s.fp := by
  have hnd := h.nd
  rw [(flat_split (·.fp) hi t).1, List.nodup_append, List.nodup_append] at hnd
  intro b hb hs
  rcases Nat.lt_or_gt_of_ne hij with h1 | h1
  · refine hnd.2.1.2.2 b hb b (List.mem_flatMap.2 ⟨s, List.mem_of_getElem? (i := j - (i + 1)) ?_, hs⟩) rfl
    rw [List.getElem?_drop, show i + 1 + (j - (i + 1)) = j by omega]; exact hj
  · refine hnd.2.2 b (List.mem_flatMap.2 ⟨s, List.mem_of_getElem? (i := j) ?_, hs⟩) b (List.mem_append_left _ hb) rfl
    rw [List.getElem?_take, if_pos h1]; exact hj
theorem SepF.step (h : SepF F w0 wr ts) (hb : Below wr.heap.size wr W) : SepF F w0 W ts :=
  ⟨h.chg.trans (Chg.of_below hb), h.nd, h.new, fun t ht => t.keep (h.hold t ht) fun b hb' => hb.block b (h.lt b (List.mem_flatMap.2 ⟨t, ht, hb'⟩))⟩
theorem SepF.add (h : SepF F w0 wr ts) (hb : Below wr.heap.size wr W) (ht : t.holds W) (hnd : t.fp.Nodup) (hnew : ∀ b, b ∈ t.fp → wr.heap.size ≤ b) : SepF F w0 W (t :: ts) := by
  have h1 := h.step hb
  refine ⟨h1.chg, ?_, fun b hb' => ?_, fun u hu => ?_⟩
  · rw [List.flatMap_cons, List.nodup_append]
    exact ⟨hnd, h.nd, fun a ha b hb' e => by subst e; have := hnew a ha; have := h.lt a hb'; omega⟩
  · rw [List.flatMap_cons] at hb'
    rcases List.mem_append.1 hb' with hb' | hb'
    · have := hnew b hb'; have := h.chg.size; exact .inr (by omega)
    · exact h.new b hb'
  · rcases List.mem_cons.1 hu with rfl | hu
    · exact ht
    · exact h1.hold u hu
theorem SepF.alloc (h : SepF F w0 wr ts) (t : TypeId) (cs : List Value) : SepF F w0 (wr.alloc (.cells cs.toArray t)) (tblk wr.heap.size t cs :: ts) :=
  h.add (below_new (Below.refl _ _) _) (Blk.new wr t cs) (by simp [tblk]) (by simp [tblk])
theorem SepF.alloc' {g : Nat} (h : SepF F w0 wr ts) (hg : wr.heap.size = g) (t : TypeId) (cs : List Value) : SepF F w0 (wr.alloc (.cells cs.toArray t)) (tblk g t cs :: ts) := by subst hg; exact h.alloc t cs
/-- thing number i has been changed, and nothing else that was there -/
theorem SepF.upd (h : SepF F w0 wr ts) (hi : ts[i]? = some t) (hc : Chg t.fp wr W) (ht : t'.holds W) (hnd : t'.fp.Nodup) (hsub : ∀ b, b ∈ t'.fp → b ∈ t.fp ∨ wr.heap.size ≤ b) : SepF F w0 W (ts.set i t') := by
  have hs := flat_split (·.fp) hi t'
  have hN := h.nd
  rw [hs.1, List.nodup_append, List.nodup_append] at hN
  have hL := h.lt
  rw [hs.1] at hL
  refine ⟨h.chgon hi hc, ?_, ?_, ?_⟩
  · rw [hs.2, List.nodup_append, List.nodup_append]
    refine ⟨hN.1, ⟨hnd, hN.2.1.2.1, fun a ha b hb e => ?_⟩, fun a ha b hb e => ?_⟩
    · subst e
      rcases hsub a ha with h1 | h1
      · exact hN.2.1.2.2 a h1 a hb rfl
      · have := hL a (List.mem_append_right _ (List.mem_append_right _ hb)); omega
    · subst e
      rcases List.mem_append.1 hb with hb | hb
      · rcases hsub a hb with h1 | h1
        · exact hN.2.2 a ha a (List.mem_append_left _ h1) rfl
        · have := hL a (List.mem_append_left _ ha); omega
      · exact hN.2.2 a ha a (List.mem_append_right _ hb) rfl
  · intro b hb
    obtain ⟨u, hu, hb2⟩ := List.mem_flatMap.1 hb
    rcases List.mem_or_eq_of_mem_set hu with h1 | h1
    · exact h.new b (List.mem_flatMap.2 ⟨u, h1, hb2⟩)
    · rw [h1] at hb2
      rcases hsub b hb2 with h1 | h1
      · exact h.new b (SepF.mem hi h1)
      · have := h.chg.size; exact .inr (by omega)
  · intro u hu
    obtain ⟨k, hk⟩ := List.mem_iff_getElem?.1 hu
    by_cases hik : i = k
    · subst hik
      rw [List.getElem?_set_self (List.getElem?_eq_some_iff.1 hi).1] at hk
      injection hk with hk
      subst hk
      exact ht
    · rw [List.getElem?_set_ne hik] at hk
      have hu' := h.hold u (List.mem_of_getElem? hk)
      exact u.keep hu' fun b hb => hc.block b (u.lt hu' b hb) (fun hm => h.apart hi hk hik b hm hb)
/-- behind a call that was handed thing i -/
theorem SepF.call (h : SepF F w0 wr ts) (i : Nat) (hi : ts[i]? = some t) (hl : Left t.fp wr W t') : SepF F w0 W (ts.set i t') := h.upd hi hl.1 hl.2.2.2 hl.2.1 hl.2.2.1
/-- things i and j have been changed into one -/
theorem SepF.upd2 (h : SepF F w0 wr ts) (hij : i ≠ j) (hi : ts[i]? = some t) (hj : ts[j]? = some s) (hc : Chg (t.fp ++ s.fp) wr W) (ht : t'.holds W) (hnd : t'.fp.Nodup) (hsub : ∀ b, b ∈ t'.fp → b ∈ t.fp ∨ b ∈ s.fp ∨ wr.heap.size ≤ b) :
    SepF F w0 W ((ts.set j tnil).set i t') := by
  -- first the two are one thing, at i
  have hji : (ts.set j tnil)[i]? = some t := by rw [List.getElem?_set_ne (Ne.symm hij)]; exact hi
  have h1 : SepF F w0 wr ((ts.set j tnil).set i ⟨t.fp ++ s.fp, fun w => t.holds w ∧ s.holds w, fun hh k => ⟨t.keep hh.1 fun b hb => k b (List.mem_append_left _ hb), s.keep hh.2 fun b hb => k b (List.mem_append_right _ hb)⟩,
      fun hh b hb => (List.mem_append.1 hb).elim (t.lt hh.1 b) (s.lt hh.2 b)⟩) := by
    have h2 : SepF F w0 wr (ts.set j tnil) := h.upd hj (Chg.refl _ _) trivial (by simp [tnil]) (fun b hb => by cases hb)
    have ha := h.apart hi hj hij
    have hns := h.ndat hj
    have hs := flat_split (·.fp) hji ⟨t.fp ++ s.fp, fun w => t.holds w ∧ s.holds w, fun hh k => ⟨t.keep hh.1 fun b hb => k b (List.mem_append_left _ hb), s.keep hh.2 fun b hb => k b (List.mem_append_right _ hb)⟩,
      fun hh b hb => (List.mem_append.1 hb).elim (t.lt hh.1 b) (s.lt hh.2 b)⟩
    have hN := h2.nd
    rw [hs.1, List.nodup_append, List.nodup_append] at hN
    have hap : ∀ b, b ∈ s.fp → b ∉ (ts.set j tnil).flatMap (·.fp) := fun b hb hm => by
      obtain ⟨u, hu, hb'⟩ := List.mem_flatMap.1 hm
      obtain ⟨k, hk⟩ := List.mem_iff_getElem?.1 hu
      by_cases hjk : j = k
      · subst hjk
        rw [List.getElem?_set_self (List.getElem?_eq_some_iff.1 hj).1] at hk
        injection hk with hk
        subst hk
        cases hb'
      · rw [List.getElem?_set_ne hjk] at hk
        exact h.apart hj hk hjk b hb hb'
    rw [hs.1] at hap
    refine ⟨h2.chg, ?_, ?_, ?_⟩
    · rw [hs.2, List.nodup_append, List.nodup_append]
      refine ⟨hN.1, ⟨?_, hN.2.1.2.1, fun a ha' b hb e => ?_⟩, fun a ha' b hb e => ?_⟩
      · show (t.fp ++ s.fp).Nodup
        rw [List.nodup_append]
        exact ⟨hN.2.1.1, hns, fun a h3 b h4 e => by subst e; exact ha a h3 h4⟩
      · subst e
        rcases List.mem_append.1 ha' with h3 | h3
        · exact hN.2.1.2.2 a h3 a hb rfl
        · exact hap a h3 (List.mem_append_right _ (List.mem_append_right _ hb))
      · subst e
        rcases List.mem_append.1 hb with hb | hb
        · rcases List.mem_append.1 hb with h3 | h3
          · exact hN.2.2 a ha' a (List.mem_append_left _ h3) rfl
          · exact hap a h3 (List.mem_append_left _ ha')
        · exact hN.2.2 a ha' a (List.mem_append_right _ hb) rfl
    · intro b hb
      rw [hs.2] at hb
      rcases List.mem_append.1 hb with hb | hb
      · exact h2.new b (by rw [hs.1]; exact List.mem_append_left _ hb)
      · rcases List.mem_append.1 hb with hb | hb
        · rcases List.mem_append.1 hb with h3 | h3
          · exact h.new b (SepF.mem hi h3)
          · exact h.new b (SepF.mem hj h3)
        · exact h2.new b (by rw [hs.1]; exact List.mem_append_right _ (List.mem_append_right _ hb))
    · intro u hu
      rcases List.mem_or_eq_of_mem_set hu with h3 | rfl
      · exact h2.hold u h3
      · exact ⟨h.at_ i hi, h.at_ j hj⟩
  have hlt : i < (ts.set j tnil).length := (List.getElem?_eq_some_iff.1 hji).1
  have h3 := h1.upd (i := i) (List.getElem?_set_self hlt) hc ht hnd (fun b hb => by
    rcases hsub b hb with h | h | h
    · exact .inl (List.mem_append_left _ h)
    · exact .inl (List.mem_append_right _ h)
    · exact .inr h)
  rwa [List.set_set] at h3
end
section
variable {F : List Nat} {w0 wr W2 : World} {ts : List Thing} {s : Thing} {i j : Nat}
theorem SepF.setBlk {g k : Nat} {t : TypeId} {cs : List Value} (h : SepF F w0 wr ts) (i : Nat) (hi : ts[i]? = some (tblk g t cs)) (u : Value) : SepF F w0 (wr.setCell ⟨g, k, none⟩ u) (ts.set i (tblk g t (cs.set k u))) :=
  h.upd hi ((Chg.refl _ _).setCell (by simp [tblk]) u) ((show Blk wr g t cs from h.at_ i hi).set_ k u) (by simp [tblk]) (fun b hb => .inl hb)
variable {α : Type} {E : Rep α} {e : TypeId} {xs : List α} {v : Value} {fp : List Nat} {x : α} {cx : List Value}
theorem SepF.putSl {g n c k m : Nat} {x x' : α} {u : Value} (h : SepF F w0 wr ts) (i : Nat) (hi : ts[i]? = some (tsl E e xs (.slice (some ⟨g, 0, none⟩) n c) fp)) (hk : xs[k]? = some x) (hm : m < E.size) (hx : ∀ cs fx, E.own wr x cs fx → E.own wr x' (cs.set m u) fx) :
    SepF F w0 (wr.setCell ⟨g, k * E.size + m, none⟩ u) (ts.set i (tsl E e (xs.set k x') (.slice (some ⟨g, 0, none⟩) n c) fp)) := by
  have h1 : SlOwn E e wr xs (.slice (some ⟨g, 0, none⟩) n c) fp := h.at_ i hi
  have hnd : fp.Nodup := h.ndat hi
  exact h.upd hi ((Chg.refl _ _).setCell h1.mem_block u) (h1.store hnd hk hm hx) hnd (fun b hb => .inl hb)
theorem SepF.put1 {g n c k : Nat} {x x' : α} {u : Value} (h : SepF F w0 wr ts) (i : Nat) (hi : ts[i]? = some (tsl E e xs (.slice (some ⟨g, 0, none⟩) n c) fp)) (hE : E.size = 1) (hk : xs[k]? = some x) (hx : ∀ cs fx, E.own wr x cs fx → E.own wr x' [u] fx) :
    SepF F w0 (wr.setCell ⟨g, k, none⟩ u) (ts.set i (tsl E e (xs.set k x') (.slice (some ⟨g, 0, none⟩) n c) fp)) := by
  have h1 := h.putSl (m := 0) (u := u) (x' := x') i hi hk (by omega) (fun cs fx ho => by
    have hl := E.olen ho
    rw [hE] at hl
    obtain ⟨a, rfl⟩ := List.length_eq_one_iff.1 hl
    exact hx _ _ ho)
  rwa [show k * E.size + 0 = k by rw [hE]; omega] at h1
theorem SepF.tail {t : Thing} (h : SepF F w0 wr (t :: ts)) : SepF F w0 wr ts := ⟨h.chg, by have := h.nd; rw [List.flatMap_cons, List.nodup_append] at this; exact this.2.1, fun b hb => h.new b (by rw [List.flatMap_cons]; exact List.mem_append_right _ hb), fun t ht => h.hold t (List.mem_cons_of_mem _ ht)⟩
theorem SepF.own0 (h : SepF F w0 wr ts) (i : Nat) (hi : ts[i]? = some (tsl E e xs v fp)) : SlOwn E e wr xs v fp ∧ fp.Nodup ∧ (∀ b, b ∈ fp → b ∈ F ∨ w0.heap.size ≤ b) ∧ Chg F w0 wr :=
  ⟨h.at_ i hi, h.ndat hi, fun b hb => h.new b (SepF.mem hi hb), h.chg⟩
/-- append, the new element a thing of the list -/
theorem SepF.push (h : SepF F w0 wr ts) (i j : Nat) (hij : i ≠ j) (hi : ts[i]? = some (tsl E e xs v fp)) (hj : ts[j]? = some s) (hb : Below wr.heap.size wr W2) (hx : ∀ W, s.holds W → E.own W x cx s.fp) :
    ∃ l, W2.ownsRow 0 e E.size v xs.length l ∧ ∀ gg cap w1, w1.ownsRow 0 e E.size (.slice (some ⟨gg, 0, none⟩) (xs.length + 1) cap) (xs.length + 1) (l ++ cx) → W2.grownBy w1 v.ownBlock → (v.ownBlock = some gg ∨ gg = W2.heap.size) →
      ∃ fp', SepF F w0 w1 ((ts.set j tnil).set i (tsl E e (xs ++ [x]) (.slice (some ⟨gg, 0, none⟩) (xs.length + 1) cap) fp')) := by
  have h2 := h.step hb
  have ho : SlOwn E e W2 xs v fp := h2.at_ i hi
  have hs := hx _ (h2.at_ j hj)
  obtain ⟨l, k1, k2⟩ := ho.push hs (h2.ndat hi) (h2.ndat hj) (fun b hb hm => h2.apart hi hj hij b hm hb)
  refine ⟨l, k1, fun gg cap w1 g1 g2 g3 => ?_⟩
  obtain ⟨fp', m1, m2, m3⟩ := k2 _ w1 g1 g2 (g3.elim (fun h => .inl h.symm) (fun h => .inr (by rw [h]; rfl)))
  refine ⟨fp', h2.upd2 hij hi hj ?_ m1 m2 (fun b hb => ?_)⟩
  · exact ⟨g2.os, g2.tape, g2.output, g2.size, fun k hk hn => g2.block k hk (fun hh => hn (List.mem_append_left _ (row_in ho hh.symm)))⟩
  · rcases m3 b hb with h | h | h
    · exact .inl h
    · exact .inr (.inl h)
    · exact .inr (.inr (by omega))
/-- append, the new element leads nowhere -/
theorem SepF.push0 (h : SepF F w0 wr ts) (i : Nat) (hi : ts[i]? = some (tsl E e xs v fp)) (hb : Below wr.heap.size wr W2) (hx : E.own W2 x cx []) :
    ∃ l, W2.ownsRow 0 e E.size v xs.length l ∧ ∀ gg cap w1, w1.ownsRow 0 e E.size (.slice (some ⟨gg, 0, none⟩) (xs.length + 1) cap) (xs.length + 1) (l ++ cx) → W2.grownBy w1 v.ownBlock → (v.ownBlock = some gg ∨ gg = W2.heap.size) →
      ∃ fp', SepF F w0 w1 (ts.set i (tsl E e (xs ++ [x]) (.slice (some ⟨gg, 0, none⟩) (xs.length + 1) cap) fp')) := by
  have h2 := h.step hb
  have ho : SlOwn E e W2 xs v fp := h2.at_ i hi
  obtain ⟨l, k1, k2⟩ := ho.push hx (h2.ndat hi) List.nodup_nil (fun b hb => by cases hb)
  refine ⟨l, k1, fun gg cap w1 g1 g2 g3 => ?_⟩
  obtain ⟨fp', m1, m2, m3⟩ := k2 _ w1 g1 g2 (g3.elim (fun h => .inl h.symm) (fun h => .inr (by rw [h]; rfl)))
  refine ⟨fp', h2.upd hi ?_ m1 m2 (fun b hb => ?_)⟩
  · exact ⟨g2.os, g2.tape, g2.output, g2.size, fun k hk hn => g2.block k hk (fun hh => hn (row_in ho hh.symm))⟩
  · rcases m3 b hb with h | h | h
    · exact .inl h
    · cases h
    · exact .inr (by omega)
/-- the inside of element k is changed -/
theorem SepF.putIn {g n c k : Nat} (h : SepF F w0 wr ts) (i : Nat) (hi : ts[i]? = some (tsl E e xs (.slice (some ⟨g, 0, none⟩) n c) fp)) (hk : xs[k]? = some x) :
    ∃ cs fx, E.own wr x cs fx ∧ fx.Nodup ∧ (∀ b, b ∈ fx → b ∈ fp ∧ b ≠ g) ∧ (∀ j u, cs[j]? = some u → wr.cell? ⟨g, k * E.size + j, none⟩ = some u) ∧
      ∀ W x' fx', Chg fx wr W → E.own W x' cs fx' → fx'.Nodup → (∀ b, b ∈ fx' → b ∈ fx) → ∃ fp', SepF F w0 W (ts.set i (tsl E e (xs.set k x') (.slice (some ⟨g, 0, none⟩) n c) fp')) := by
  have h1 : SlOwn E e wr xs (.slice (some ⟨g, 0, none⟩) n c) fp := h.at_ i hi
  obtain ⟨cs, fx, k1, k2, k3, k4, k5⟩ := h1.inner (h.ndat hi) hk
  refine ⟨cs, fx, k1, k2, k3, k4, fun W x' fx' m1 m2 m3 m4 => ?_⟩
  obtain ⟨fp', p1, p2, p3⟩ := k5 W x' fx' m1 m2 m3 m4
  exact ⟨fp', h.upd hi (m1.more fun b hb => (k3 b hb).1) p1 p2 (fun b hb => .inl (p3 b hb))⟩
/-- what block i holds -/
theorem SepF.cell {g k : Nat} {t : TypeId} {cs : List Value} {u : Value} (h : SepF F w0 wr ts) (i : Nat) (hi : ts[i]? = some (tblk g t cs)) (hu : cs[k]? = some u) : wr.cell? ⟨g, k, none⟩ = some u := (show Blk wr g t cs from h.at_ i hi).cell hu
theorem SepF.frz {g k : Nat} {t : TypeId} {cs : List Value} (h : SepF F w0 wr ts) (i : Nat) (hi : ts[i]? = some (tblk g t cs)) : wr.frozen? ⟨g, k, none⟩ = false := (show Blk wr g t cs from h.at_ i hi).frozen k
theorem SepF.blk {g : Nat} {t : TypeId} {cs : List Value} (h : SepF F w0 wr ts) (i : Nat) (hi : ts[i]? = some (tblk g t cs)) : g < wr.heap.size ∧ (g ∈ F ∨ w0.heap.size ≤ g) := ⟨(show Blk wr g t cs from h.at_ i hi).lt, h.new g (SepF.mem hi (by simp [tblk]))⟩
theorem SepF.sl (h : SepF F w0 wr ts) (i : Nat) (hi : ts[i]? = some (tsl E e xs v fp)) : SlOwn E e wr xs v fp := h.at_ i hi
theorem SepF.slnew (h : SepF F w0 wr ts) (i : Nat) (hi : ts[i]? = some (tsl E e xs v fp)) : ∀ b, b ∈ fp → (b ∈ F ∨ w0.heap.size ≤ b) ∧ b < wr.heap.size := fun b hb => ⟨h.new b (SepF.mem hi hb), (show SlOwn E e wr xs v fp from h.at_ i hi).olt b hb⟩
theorem SepF.rowne {g : Nat} {t : TypeId} {cs : List Value} (h : SepF F w0 wr ts) (i j : Nat) (hi : ts[i]? = some (tsl E e xs v fp)) (hj : ts[j]? = some (tblk g t cs)) (hij : i ≠ j) : some g ≠ v.ownBlock := fun hh => h.apart hi hj hij g (row_in (h.sl i hi) hh.symm) (by simp [tblk])
end
end Mm
end Go.Proofs.Ytkodfflnpalbbaa

/-
  More on the list of things that a call may change: at its end, some of them, behind a call that hands back things. No program in sight. No conditions.
-/
namespace Go.Proofs.Ytkodfflnpalbbaa
open Go.RowKit
namespace Mm
section
variable {F : List Nat} {w0 wr W : World} {ts : List Thing} {t a b c d x y : Thing}
theorem SepF.addEnd (h : SepF F w0 wr ts) (hb : Below wr.heap.size wr W) (ht : t.holds W) (hnd : t.fp.Nodup) (hnew : ∀ b, b ∈ t.fp → wr.heap.size ≤ b) : SepF F w0 W (ts ++ [t]) :=
  (h.add hb ht hnd hnew).conv (by simp only [List.flatMap_append, List.flatMap_cons, List.flatMap_nil, List.append_nil]; exact List.perm_append_comm) (fun u hu => by
    rcases List.mem_append.1 hu with hu | hu
    · exact (h.step hb).hold u hu
    · rw [List.mem_singleton.1 hu]; exact ht)
theorem SepF.allocEnd {g : Nat} (h : SepF F w0 wr ts) (hg : wr.heap.size = g) (T : TypeId) (cs : List Value) : SepF F w0 (wr.alloc (.cells cs.toArray T)) (ts ++ [tblk g T cs]) := by
  subst hg
  exact h.addEnd (below_new (Below.refl _ _) _) (Blk.new wr T cs) (by simp [tblk]) (by simp [tblk])
theorem SepF.swapEnd (h : SepF F w0 wr (ts ++ [x, y])) : SepF F w0 wr (ts ++ [y, x]) :=
  h.conv (by simp only [List.flatMap_append, List.flatMap_cons, List.flatMap_nil, List.append_nil]; exact List.Perm.append_left _ List.perm_append_comm) (fun u hu => h.hold u (by
    simp only [List.mem_append, List.mem_cons, List.not_mem_nil, or_false] at hu ⊢
    rcases hu with hu | hu | hu
    · exact .inl hu
    · exact .inr (.inr hu)
    · exact .inr (.inl hu)))
/-- some of the things, by their numbers -/
theorem SepF.sel (h : SepF F w0 wr ts) : ∀ (is : List Nat) {us : List Thing}, is.Nodup → us = is.filterMap (fun i => ts[i]?) → SepF F w0 wr us
  | [], us, _, hu => by subst hu; exact ⟨h.chg, by simp, by simp, by simp⟩
  | i :: is, us, hn, hu => by
    rw [List.nodup_cons] at hn
    have ih := SepF.sel h is (us := is.filterMap (fun i => ts[i]?)) hn.2 rfl
    cases hi : ts[i]? with
    | none => rw [List.filterMap_cons, hi] at hu; rw [hu]; exact ih
    | some t =>
      rw [List.filterMap_cons, hi] at hu
      rw [hu]
      refine ⟨h.chg, ?_, fun b hb => ?_, fun u hu => ?_⟩
      · rw [List.flatMap_cons, List.nodup_append]
        refine ⟨h.ndat hi, ih.nd, fun a ha b hb e => ?_⟩
        subst e
        obtain ⟨s, hs, hb⟩ := List.mem_flatMap.1 hb
        obtain ⟨j, hj, hs⟩ := List.mem_filterMap.1 hs
        exact h.apart hi hs (fun e => hn.1 (e ▸ hj)) a ha hb
      · rw [List.flatMap_cons] at hb
        rcases List.mem_append.1 hb with hb | hb
        · exact h.new b (SepF.mem hi hb)
        · exact ih.new b hb
      · rcases List.mem_cons.1 hu with rfl | hu
        · exact h.at_ i hi
        · exact ih.hold u hu
/-- behind a call that was handed thing i, and hands back things -/
theorem SepF.callAll {us : List Thing} (h : SepF F w0 wr ts) (i : Nat) (hi : ts[i]? = some t) (hS : SepF t.fp wr W us) : SepF F w0 W (ts.set i tnil ++ us) := by
  have h1 := h.upd (t' := ⟨us.flatMap (·.fp), fun w => ∀ u, u ∈ us → u.holds w, fun hh k u hu => u.keep (hh u hu) fun b hb => k b (List.mem_flatMap.2 ⟨u, hu, hb⟩), fun hh b hb => by
    obtain ⟨u, hu, hb⟩ := List.mem_flatMap.1 hb
    exact u.lt (hh u hu) b hb⟩) hi hS.chg hS.hold hS.nd hS.new
  have e1 := (flat_split (·.fp) hi ⟨us.flatMap (·.fp), fun w => ∀ u, u ∈ us → u.holds w, fun hh k u hu => u.keep (hh u hu) fun b hb => k b (List.mem_flatMap.2 ⟨u, hu, hb⟩), fun hh b hb => by
    obtain ⟨u, hu, hb⟩ := List.mem_flatMap.1 hb
    exact u.lt (hh u hu) b hb⟩).2
  have e2 := (flat_split (·.fp) hi tnil).2
  refine h1.conv ?_ (fun u hu => ?_)
  · rw [List.flatMap_append, e1, e2]
    simp only [tnil, List.nil_append, List.append_assoc]
    exact List.Perm.append_left _ List.perm_append_comm
  · rcases List.mem_append.1 hu with hu | hu
    · obtain ⟨k, hk⟩ := List.mem_iff_getElem?.1 hu
      by_cases hik : i = k
      · subst hik
        rw [List.getElem?_set_self (List.getElem?_eq_some_iff.1 hi).1] at hk
        injection hk with hk
        subst hk
        exact trivial
      · refine h1.hold u (List.mem_of_getElem? (i := k) ?_)
        rw [List.getElem?_set_ne hik] at hk ⊢
        exact hk
    · exact hS.hold u hu
theorem SepF.start (w : World) : SepF [] w w [] := ⟨Chg.refl _ _, by simp, by simp, by simp⟩
theorem SepF.bel0 (h : SepF [] w0 wr ts) : Below w0.heap.size w0 wr := Below.chg (Below.refl _ _) h.chg (Nat.le_refl _) (by simp)
end
theorem lt_keep {w w' : World} {b : Nat} (h : b < w.heap.size) (k : w'.heap[b]? = w.heap[b]?) : b < w'.heap.size := by
  rcases Nat.lt_or_ge b w'.heap.size with h3 | h3
  · exact h3
  · rw [Array.getElem?_eq_none h3, Array.getElem?_eq_getElem h] at k
    cases k
/-- data that several variables share -/
def tpool {α : Type} (R : Rep α) (fp : List Nat) (ss : List (α × List Value)) : Thing :=
  ⟨fp, fun w => (∀ b, b ∈ fp → b < w.heap.size) ∧ ∀ p, p ∈ ss → ∃ f, (∀ b, b ∈ f → b ∈ fp) ∧ R.own w p.1 p.2 f,
    fun h k => And.intro (fun b hb => lt_keep (h.1 b hb) (k b hb)) (fun p hp => (h.2 p hp).elim fun f hf => ⟨f, hf.1, R.okeep hf.2 fun b hb => k b (hf.1 b hb)⟩), fun h => h.1⟩
theorem SepF.pool {α : Type} {R : Rep α} {F : List Nat} {w0 wr : World} {ts : List Thing} {fp : List Nat} {ss : List (α × List Value)} (h : SepF F w0 wr ts) (i : Nat) (hi : ts[i]? = some (tpool R fp ss)) {x : α} {cs : List Value} (hx : (x, cs) ∈ ss) : R.at_ wr wr.heap.size x cs := by
  obtain ⟨h1, h2⟩ := h.at_ i hi
  obtain ⟨f, h3, h4⟩ := h2 _ hx
  exact R.weak h4 (R.olt h4)
theorem SepF.pool2 {α : Type} {R : Rep α} {F : List Nat} {w0 wr : World} {ts : List Thing} {fp fx fy : List Nat} {ss ss' : List (α × List Value)} {x y : α} {cx cy : List Value} (h : SepF F w0 wr (tpool R fp ss :: tow R x cx fx :: tow R y cy fy :: ts))
    (hs : ∀ p, p ∈ ss' → p ∈ ss ∨ p = (x, cx) ∨ p = (y, cy)) : SepF F w0 wr (tpool R (fp ++ (fx ++ fy)) ss' :: ts) := by
  have h0 := h.hold _ List.mem_cons_self
  have h1 : R.own wr x cx fx := h.hold (tow R x cx fx) (by simp)
  have h2 : R.own wr y cy fy := h.hold (tow R y cy fy) (by simp)
  refine h.conv (by simp [tpool, tow]) (List.forall_mem_cons.2 ⟨⟨fun b hb => ?_, fun p hp => ?_⟩, fun u hu => h.hold u (by simp [hu])⟩)
  · rcases List.mem_append.1 hb with hb | hb
    · exact h0.1 b hb
    · rcases List.mem_append.1 hb with hb | hb
      · exact R.olt h1 b hb
      · exact R.olt h2 b hb
  · rcases hs p hp with hp | rfl | rfl
    · obtain ⟨f, h3, h4⟩ := h0.2 p hp
      exact ⟨f, fun b hb => List.mem_append_left _ (h3 b hb), h4⟩
    · exact ⟨fx, fun b hb => List.mem_append_right _ (List.mem_append_left _ hb), h1⟩
    · exact ⟨fy, fun b hb => List.mem_append_right _ (List.mem_append_right _ hb), h2⟩
/-- the reading of an owned struct among the things -/
theorem SepF.rd {α : Type} {R : Rep α} {F : List Nat} {w0 wr : World} {ts : List Thing} {x : α} {cs : List Value} {fp : List Nat} (h : SepF F w0 wr ts) (i : Nat) (hi : ts[i]? = some (tow R x cs fp)) : R.at_ wr wr.heap.size x cs := by
  have h1 : R.own wr x cs fp := h.at_ i hi
  exact R.weak h1 (R.olt h1)
end Mm
end Go.Proofs.Ytkodfflnpalbbaa

/-
  slices.Insert with one element, and append of zero values, on slices that the call owns and whose elements are one cell each and lead nowhere. No program in sight. No conditions.
-/
namespace Go.Proofs.Ytkodfflnpalbbaa
open Go.RowKit
namespace Mm
theorem flat_sub {β γ : Type} (f : β → List γ) {us ts : List β} (h : us.Sublist ts) : (us.flatMap f).Sublist (ts.flatMap f) := by
  induction h with
  | slnil => exact List.Sublist.refl _
  | cons a _ ih => rw [List.flatMap_cons]; exact ih.trans (List.sublist_append_right _ _)
  | cons_cons a _ ih => rw [List.flatMap_cons, List.flatMap_cons]; exact (List.Sublist.refl _).append ih
/-- fewer things -/
theorem SepF.sub {F : List Nat} {w0 wr : World} {ts us : List Thing} (h : SepF F w0 wr ts) (hs : us.Sublist ts) : SepF F w0 wr us :=
  ⟨h.chg, h.nd.sublist (flat_sub (·.fp) hs), fun b hb => h.new b ((flat_sub (·.fp) hs).subset hb), fun u hu => h.hold u (hs.subset hu)⟩
/-- elements of one cell that lead nowhere -/
structure Flat1 {α : Type} (E : Rep α) (val : α → Value) : Prop where
  size : E.size = 1
  one : ∀ x, (val x).oneCell' = true
  inv : ∀ {w x cs fx}, E.own w x cs fx → cs = [val x] ∧ fx = [] ∧ ∀ w', E.own w' x [val x] []
theorem flat1_int : Flat1 int (fun x => .int .i64 x) := ⟨rfl, fun _ => rfl, fun h => ⟨h.1, h.2.2, fun _ => ⟨rfl, h.2.1, rfl⟩⟩⟩
theorem flat1_str : Flat1 str (fun x => .string x) := ⟨rfl, fun _ => rfl, fun h => ⟨h.1, h.2.2, fun _ => ⟨rfl, h.2.1, rfl⟩⟩⟩
theorem fm_val {α : Type} (val : α → Value) : ∀ xs : List α, xs.flatMap (fun x => [val x]) = xs.map val
  | [] => rfl
  | a :: t => by rw [List.flatMap_cons, fm_val val t]; rfl
theorem shape_blk {w : World} {g : Nat} {t : TypeId} {cs : List Value} (h : Blk w g t cs) : w.shape? g = some (t, cs.length) := by
  unfold Blk at h
  unfold World.shape?
  rw [h]
  simp
section
variable {α : Type} {E : Rep α} {val : α → Value} {e : TypeId} {w w' : World} {xs : List α} {v : Value} {fp : List Nat} {g n c : Nat}
theorem Flat1.owns (hF : Flat1 E val) (h : SlOwn E e w xs v fp) : w.ownsRow 0 e 1 v xs.length (xs.map val) ∧ fp = v.ownBlock.toList ∧ ∀ x, x ∈ xs → ∀ w', E.own w' x [val x] [] := by
  obtain ⟨es, he, ho, rfl⟩ := h
  have h1 : es = xs.map fun x => ([val x], ([] : List Nat)) := by
    apply List.ext_getElem?
    intro i
    rw [List.getElem?_map]
    rcases Nat.lt_or_ge i xs.length with hi | hi
    · have hx := List.getElem?_eq_getElem hi
      have hy := List.getElem?_eq_getElem (show i < es.length by rw [he.1]; exact hi)
      have h2 := hF.inv (he.2 i _ _ hx hy)
      rw [hx, hy]
      exact congrArg some (Prod.ext h2.1 h2.2.1)
    · rw [List.getElem?_eq_none hi, List.getElem?_eq_none (by rw [he.1]; exact hi)]
      rfl
  have h3 : (xs.map fun x => ([val x], ([] : List Nat))).flatMap (·.1) = xs.map val := by rw [List.flatMap_map]; exact fm_val val xs
  have h4 : (xs.map fun x => ([val x], ([] : List Nat))).flatMap (·.2) = [] := by simp [List.flatMap_map]
  refine ⟨?_, by rw [h1, h4]; simp, fun x hx w' => ?_⟩
  · rw [h1, h3, hF.size] at ho
    exact ho
  · obtain ⟨i, hi, rfl⟩ := List.mem_iff_getElem.1 hx
    exact (hF.inv (he.2 i _ _ (List.getElem?_eq_getElem hi) (List.getElem?_eq_getElem (show i < es.length by rw [he.1]; exact hi)))).2.2 w'
theorem Flat1.row (hF : Flat1 E val) (ho : w.ownsRow 0 e 1 v xs.length (xs.map val)) (hE : ∀ x, x ∈ xs → E.own w x [val x] []) : SlOwn E e w xs v v.ownBlock.toList :=
  SlOwn.of_row (enc := fun x => [val x]) (by
    rw [hF.size, show xs.flatMap (fun x => [val x]) = xs.map val from fm_val val xs]
    exact ho) hE rfl
theorem Flat1.blk (hF : Flat1 E val) (h : SlOwn E e w xs (.slice (some ⟨g, 0, none⟩) n c) fp) : ∃ cur, Blk w g e cur ∧ cur.length = c ∧ cur.take n = xs.map val ∧ n = xs.length ∧ n ≤ c ∧ c ≤ maxLen ∧ fp = [g] := by
  obtain ⟨h1, h2, _⟩ := hF.owns h
  rcases h1.2 with ⟨h3, _⟩ | ⟨g', cap, cur, h3, _, hg, hnc, hcm, hcs, htake⟩
  · simp at h3
  · simp only [Value.slice.injEq, Option.some.injEq, Addr.mk.injEq, and_true] at h3
    obtain ⟨rfl, rfl, rfl⟩ := h3
    refine ⟨cur.toList, by unfold Blk; rw [Array.toArray_toList]; exact hg, by simpa using hcs, by simpa using htake, rfl, hnc, hcm, by rw [h2]; simp [Value.ownBlock]⟩
theorem Flat1.of_blk (hF : Flat1 E val) {cur : List Value} (h : Blk w g e cur) (hl : cur.length = c) (ht : cur.take n = xs.map val) (hn : xs.length = n) (hnc : n ≤ c) (hc : c ≤ maxLen) (hE : ∀ x, x ∈ xs → E.own w x [val x] []) : SlOwn E e w xs (.slice (some ⟨g, 0, none⟩) n c) [g] := by
  subst hn
  exact hF.row ⟨by simp, .inr ⟨g, c, cur.toArray, rfl, Nat.zero_le _, h, hnc, hc, by simpa using hl, by simpa using ht⟩⟩ hE
theorem Flat1.cell (hF : Flat1 E val) (h : SlOwn E e w xs (.slice (some ⟨g, 0, none⟩) n c) fp) {k : Nat} {x : α} (hk : xs[k]? = some x) : w.cell? ⟨g, k, none⟩ = some (val x) := by
  obtain ⟨cur, hb, hcl, ht, hn, hnc, _⟩ := hF.blk h
  have hkn := (List.getElem?_eq_some_iff.1 hk).1
  refine hb.cell ?_
  have h1 : (cur.take n)[k]? = some (val x) := by rw [ht, List.getElem?_map, hk]; rfl
  rw [List.getElem?_take, if_pos (by omega)] at h1
  exact h1
theorem setCells_blk : ∀ (vs : List Value) (w : World) (o : Nat) (cs : List Value), Blk w g e cs → Blk (w.setCells g o vs) g e (setList cs o vs)
  | [], _, _, _, h => h
  | v :: r, _, o, _, h => setCells_blk r _ (o + 1) _ (h.set_ o v)
theorem setCells_chg (g : Nat) : ∀ (vs : List Value) (w : World) (o : Nat), Chg [g] w (w.setCells g o vs)
  | [], w, _ => Chg.refl _ _
  | v :: r, w, o => ((Chg.refl [g] w).setCell (p := ⟨g, o, none⟩) (by simp) v).trans (setCells_chg g r _ (o + 1))
theorem ins_cells {cur ys : List Value} {u : Value} {i : Nat} (ht : cur.take n = ys) (hn : ys.length = n) (hi : i < n) (hroom : n + 1 ≤ cur.length) :
    (setList (setList cur (i + 1) (ys.drop i)) i [u]).take n = Pl.insAt ys i u := by
  apply List.ext_getElem?
  intro j
  rw [Pl.insAt_get _ _ _ (by omega), List.getElem?_take, hn]
  by_cases hj : n ≤ j
  · rw [if_neg (by omega), if_pos hj]
  · rw [if_pos (by omega), if_neg hj, setList_get _ _ _ _ (by rw [setList_len]; simp; omega)]
    by_cases h1 : j < i
    · rw [if_pos h1, if_neg (by omega), setList_get _ _ _ _ (by rw [List.length_drop]; omega), if_neg (by omega), ← ht, List.getElem?_take, if_pos (by omega)]
    · rw [if_neg h1]
      by_cases h2 : j = i
      · subst h2
        rw [if_pos rfl, if_pos (by simp), Nat.sub_self]; rfl
      · rw [if_neg h2, if_neg (by simp; omega), setList_get _ _ _ _ (by rw [List.length_drop]; omega), if_pos (by rw [List.length_drop]; omega), List.getElem?_drop]
        congr 1; omega
theorem ins_cells' {rest ys : List Value} {z u : Value} {i k : Nat} (hn : ys.length = n) (hi : i < n) (hk : (ys.take i ++ List.replicate (n + 1 - i) z ++ rest).length = k) :
    (setList (setList (ys.take i ++ List.replicate (n + 1 - i) z ++ rest) i [u]) (i + 1) (ys.drop i)).take n = Pl.insAt ys i u := by
  have hl : n + 1 ≤ (ys.take i ++ List.replicate (n + 1 - i) z ++ rest).length := by
    rw [List.length_append, List.length_append, List.length_take, List.length_replicate]; omega
  apply List.ext_getElem?
  intro j
  rw [Pl.insAt_get _ _ _ (by omega), List.getElem?_take, hn]
  by_cases hj : n ≤ j
  · rw [if_neg (by omega), if_pos hj]
  · rw [if_pos (by omega), if_neg hj, setList_get _ _ _ _ (by rw [setList_len, List.length_drop]; omega)]
    by_cases h1 : j < i
    · rw [if_pos h1, if_neg (by omega), setList_get _ _ _ _ (by simp only [List.length_singleton]; omega), if_neg (by omega), List.getElem?_append_left (by rw [List.length_append, List.length_take, List.length_replicate]; omega), List.getElem?_append_left (by rw [List.length_take]; omega), List.getElem?_take, if_pos h1]
    · rw [if_neg h1]
      by_cases h2 : j = i
      · subst h2
        rw [if_pos rfl, if_neg (by omega), setList_get _ _ _ _ (by simp only [List.length_singleton]; omega), if_pos (by simp), Nat.sub_self]; rfl
      · rw [if_neg h2, if_pos (by rw [List.length_drop]; omega), List.getElem?_drop]
        congr 1; omega
/-- behind slices.Insert of one element, where there was room: the slice cut back to its old length -/
theorem ins_shift {F : List Nat} {w0 wr : World} {ts : List Thing} {i k : Nat} {x : α} (hF : Flat1 E val) (h : SepF F w0 wr ts) (hi : ts[i]? = some (tsl E e xs (.slice (some ⟨g, 0, none⟩) n c) fp)) (hk : k < n) (hroom : n + 1 ≤ c) (hx : ∀ w, E.own w x [val x] []) {off1 off2 : Nat} (h1 : k + 1 = off1) (h2 : k = off2) :
    SepF F w0 ((wr.drew.setCells g off1 ((xs.map val).drop k)).setCells g off2 [val x]) (ts.set i (tsl E e (Pl.insAt xs k x) (.slice (some ⟨g, 0, none⟩) n c) fp)) := by
  subst h1; subst h2
  have hs : SlOwn E e wr xs (.slice (some ⟨g, 0, none⟩) n c) fp := h.at_ i hi
  obtain ⟨cur, hb, hcl, ht, hn, hnc, hcm, rfl⟩ := hF.blk hs
  have hxs := (hF.owns hs).2.2
  have hd : Blk wr.drew g e cur := hb
  have hb2 := setCells_blk [val x] _ k _ (setCells_blk ((xs.map val).drop k) _ (k + 1) _ hd)
  refine h.upd hi (((Chg.of_below (Below.refl wr.heap.size wr).drew).trans (setCells_chg g _ _ _)).trans (setCells_chg g _ _ _)) (t' := tsl E e (Pl.insAt xs k x) (.slice (some ⟨g, 0, none⟩) n c) [g]) ?_ (by simp [tsl]) (fun b hb => .inl hb)
  refine hF.of_blk hb2 (by rw [setList_len, setList_len, hcl]) ?_ (by rw [Pl.insAt_len _ _ _ (by omega)]; omega) hnc hcm (fun y hy => ?_)
  · rw [ins_cells ht (by rw [List.length_map]; omega) hk (by omega), Pl.insAt_map]
  · rcases Pl.insAt_mem hy with hy | rfl
    · exact hxs y hy _
    · exact hx _
/-- the same, where it has moved -/
theorem ins_grow {F : List Nat} {w0 wr : World} {ts : List Thing} {i k : Nat} {x : α} {z : Value} {ROW : Array Value} {G : Nat} (hF : Flat1 E val) (h : SepF F w0 wr ts) (hi : ts[i]? = some (tsl E e xs (.slice (some ⟨g, 0, none⟩) n c) fp)) (hk : k < n) (hx : ∀ w, E.own w x [val x] []) {off1 off2 : Nat} (h1 : k = off1) (h2 : k + 1 = off2) (hG : n + 1 ≤ G) (hGm : G ≤ maxLen)
    (hR : ROW = ((xs.map val).take k).toArray ++ Builtin.zeroCells #[z] (n + 1 - k) ++ Builtin.zeroCells #[z] (G - (n + 1))) :
    SepF F w0 ((((wr.alloc (.cells ROW e)).drew.setCells wr.heap.size off1 [val x]).drew).setCells wr.heap.size off2 ((xs.map val).drop k)) (ts.set i (tsl E e (Pl.insAt xs k x) (.slice (some ⟨wr.heap.size, 0, none⟩) n G) [wr.heap.size])) := by
  subst h1; subst h2
  have hs : SlOwn E e wr xs (.slice (some ⟨g, 0, none⟩) n c) fp := h.at_ i hi
  obtain ⟨cur, hb, hcl, ht, hn, hnc, hcm, rfl⟩ := hF.blk hs
  have hxs := (hF.owns hs).2.2
  have hz : ∀ m, (Builtin.zeroCells #[z] m).toList = List.replicate m z := fun m => by
    apply List.ext_getElem?
    intro j
    by_cases hj : j < m <;> simp [Builtin.zeroCells, hj, Nat.mod_one]
  have hRl : ROW.toList = (xs.map val).take k ++ List.replicate (n + 1 - k) z ++ List.replicate (G - (n + 1)) z := by
    rw [hR]; simp [hz]
  have hRs : ROW.toList.length = G := by
    rw [hRl]; simp; omega
  have hd : Blk (wr.alloc (.cells ROW e)).drew wr.heap.size e ROW.toList := by
    have := Blk.new wr e ROW.toList
    rw [Array.toArray_toList] at this
    exact this
  have hb1 : Blk (((wr.alloc (.cells ROW e)).drew.setCells wr.heap.size k [val x]).drew) wr.heap.size e (setList ROW.toList k [val x]) := setCells_blk [val x] _ k _ hd
  have hb2 := setCells_blk ((xs.map val).drop k) _ (k + 1) _ hb1
  have hch : Below wr.heap.size wr ((((wr.alloc (.cells ROW e)).drew.setCells wr.heap.size k [val x]).drew).setCells wr.heap.size (k + 1) ((xs.map val).drop k)) := by
    have q1 : Below wr.heap.size wr (wr.alloc (.cells ROW e)).drew := (below_new (Below.refl _ _) _).drew
    have q2 := Below.chg q1 (setCells_chg wr.heap.size [val x] _ k) q1.size (fun b hb => by rw [List.mem_singleton.1 hb]; exact Nat.le_refl _)
    have q3 := Below.chg q2.drew (setCells_chg wr.heap.size ((xs.map val).drop k) _ (k + 1)) q2.drew.size (fun b hb => by rw [List.mem_singleton.1 hb]; exact Nat.le_refl _)
    exact q3
  refine h.upd hi (Chg.of_below hch) (t' := tsl E e (Pl.insAt xs k x) (.slice (some ⟨wr.heap.size, 0, none⟩) n G) [wr.heap.size]) ?_ (by simp [tsl]) (fun b hb => .inr (by simp [tsl] at hb; omega))
  refine hF.of_blk hb2 (by rw [setList_len, setList_len, hRs]) ?_ (by rw [Pl.insAt_len _ _ _ (by omega)]; omega) (by omega) hGm (fun y hy => ?_)
  · rw [hRl, ins_cells' (by rw [List.length_map]; omega) hk rfl, Pl.insAt_map]
  · rcases Pl.insAt_mem hy with hy | rfl
    · exact hxs y hy _
    · exact hx _
end
section
variable {P : Program} (w : World)
/-- append(s, make([]T, k)...) on a slice that the call owns -/
theorem run_append_own_zeros (t tn ty e : TypeId) (i : TypeInfo) (z : Value) (bytes : Nat) (ht : P.underlying t = some (.slice e)) (htn : P.underlying tn = some (.int .i64)) (hi : P.info? e = some i) (hz : i.zero = some z) (hsize : i.size = 1) (hby : i.bytes = bytes) (hzs : z.cells = #[z]) (hz1 : z.oneCell' = true)
    (v : Value) (n : Nat) (xs : List Value) (hown : w.ownsRow 0 e 1 v n xs) (k : Nat) (hnk : n + k ≤ maxLen) (hbytes : (n + k) * bytes ≤ 140737488355328) :
    ∃ v' w', (Builtin.append_ #[t, tn] ty #[v, .int .i64 k]).run P w = .ok v' w' ∧ w'.ownsRow 0 e 1 v' (n + k) (xs ++ List.replicate k z) ∧ w.grownBy w' v.ownBlock ∧ (v'.ownBlock = v.ownBlock ∨ v'.ownBlock = some w.heap.size) := by
  subst hby
  have hzc : ∀ m, (Builtin.zeroCells z.cells m).toList = List.replicate m z := fun m => by
    rw [hzs]
    apply List.ext_getElem?
    intro j
    by_cases hj : j < m <;> simp [Builtin.zeroCells, hj, Nat.mod_one]
  have hlen : (xs ++ List.replicate k z).length = n + k := by rw [List.length_append, hown.1, List.length_replicate]; omega
  have hm63 : n + k ≤ 9223372036854775807 := by unfold maxLen at hnk; omega
  have hkb : k * i.bytes ≤ 281474976710656 := by
    have := Nat.mul_le_mul_right i.bytes (show k ≤ n + k by omega)
    omega
  have grown : ∀ (old : Nat) (row : Option Nat),
      (w.drew.alloc (.cells (xs.toArray ++ Builtin.zeroCells z.cells k ++ Builtin.zeroCells z.cells (grownCap w (n + k) old e - (n + k))) e)).ownsRow 0 e 1
        (.slice (some ⟨w.heap.size, 0, none⟩) (n + k) (grownCap w (n + k) old e)) (n + k) (xs ++ List.replicate k z) ∧
      w.grownBy (w.drew.alloc (.cells (xs.toArray ++ Builtin.zeroCells z.cells k ++ Builtin.zeroCells z.cells (grownCap w (n + k) old e - (n + k))) e)) row := by
    intro old row
    have hge := grownCap_ge w (n + k) old e
    have hcm : grownCap w (n + k) old e ≤ maxLen := grownCap_le_maxLen w (n + k) old e hnk
    refine ⟨⟨by rw [hlen]; omega, .inr ⟨w.heap.size, _, _, rfl, Nat.zero_le _, heap_alloc_new w.drew _, hge, hcm, ?_, ?_⟩⟩, ⟨rfl, rfl, rfl, by simp, fun k hk _ => heap_alloc_old w.drew _ hk⟩⟩
    · have := hown.1
      simp only [Array.size_append, List.size_toArray, size_zeroCells, hzs, Nat.mul_one, List.size_toArray]
      simp
      omega
    · simp only [Array.toList_append, hzc]
      rw [Nat.mul_one, ← hlen]
      exact List.take_left
  rcases hown.2 with ⟨rfl, rfl⟩ | ⟨g, cap, cur, rfl, hbg, hg, hnc, hcm, hcs, htake⟩
  · have hx : xs = [] := List.eq_nil_of_length_eq_zero (by simpa using hown.1)
    subst hx
    rcases Nat.eq_zero_or_pos k with rfl | hk
    · refine ⟨_, w, ?_, by simpa using World.ownsRow_nil w 0 e 1, ⟨rfl, rfl, rfl, Nat.le_refl _, fun _ _ _ => rfl⟩, .inl rfl⟩
      have hw : IntKind.i64.wrap 0 = 0 := by decide
      simp [Builtin.append_, run_underlying ht, run_underlying htn, sizeOf, typeInfo, hi, asInt, asIntOf, hw]
    · have hr := Lib.run_append_nil_zeros (P := P) w t tn ty e i z .i64 .i64 ht htn hi hz k hk (by omega) (by omega) hkb
      obtain ⟨g1, g2⟩ := grown 0 none
      simp only [Nat.zero_add] at g1 g2
      refine ⟨_, _, hr, ?_, ?_, .inr rfl⟩
      · have : (([] : List Value).toArray ++ Builtin.zeroCells z.cells k) = Builtin.zeroCells z.cells k := by simp
        rw [this] at g1
        rw [Nat.zero_add]
        exact g1
      · have : (([] : List Value).toArray ++ Builtin.zeroCells z.cells k) = Builtin.zeroCells z.cells k := by simp
        rw [this] at g2
        exact g2
  · have hw : IntKind.i64.wrap (k : Int) = k := by rw [IntKind.wrap_i64]; omega
    have hcl : cur.toList.length = cap := by rw [Array.length_toList, hcs, Nat.mul_one]
    have hxl : xs.length = n := by rw [hown.1, Nat.mul_one]
    rcases Nat.lt_or_ge cap (n + k) with hlt | hroom
    · have hold : (Builtin.firstCells i.size n (.slice (some ⟨g, 0, none⟩) n cap)).run P w.drew = .ok xs.toArray w.drew := by
        rw [hsize]
        exact run_firstCells_some w.drew 1 n ⟨g, 0, none⟩ n cap xs (by rw [hxl]; omega) (fun j v hj => by
          have := hown.cells (g := g) rfl j v hj
          exact this)
      have hr := Lib.run_append_grow_zeros (P := P) w t tn ty e i z .i64 .i64 ht htn hi hz (some ⟨g, 0, none⟩) n cap xs hold k (by omega) (by omega) hlt (by omega) hkb (growslice_fits hlt hbytes)
      obtain ⟨g1, g2⟩ := grown cap (some g)
      exact ⟨_, _, hr, g1, g2, .inr rfl⟩
    · rcases Nat.eq_zero_or_pos k with rfl | hk
      · refine ⟨.slice (some ⟨g, 0, none⟩) (n + 0) cap, w, ?_, by simpa using hown, ⟨rfl, rfl, rfl, Nat.le_refl _, fun _ _ _ => rfl⟩, .inl rfl⟩
        have hw0 : IntKind.i64.wrap 0 = 0 := by decide
        simp [Builtin.append_, run_underlying ht, run_underlying htn, sizeOf, typeInfo, hi, asInt, asIntOf, hw0, hnc, storeCells]
      · have hst := run_storeCells_at P g n e (List.replicate k z) 0 cur w hg (by rw [List.length_replicate]; have := hcs; omega) (fun v hv => by rw [(List.mem_replicate.1 hv).2]; exact hz1)
        simp only [Nat.add_zero, List.length_replicate] at hst
        have hks : ¬ (k = 0) := by omega
        have hneg : ¬ ((k : Int) < 0) := by omega
        have h48i : ¬ (281474976710656 < (k : Int) * (i.bytes : Int)) := by
          rw [← Int.natCast_mul]
          omega
        have hr : (Builtin.append_ #[t, tn] ty #[.slice (some ⟨g, 0, none⟩) n cap, .int .i64 k]).run P w = .ok (.slice (some ⟨g, 0, none⟩) (n + k) cap) (w.setRow g (cur.toList.take n ++ List.replicate k z ++ cur.toList.drop (n + k)).toArray) := by
          simp [Builtin.append_, run_underlying ht, run_underlying htn, sizeOf, typeInfo, zeroValue, hi, hz, asInt, asIntOf, hw, hneg, h48i, hsize, hks, hroom, Addr.add_lit, hzc, hst]
        refine ⟨_, _, hr, ⟨by rw [hlen]; omega, .inr ⟨g, cap, _, rfl, hbg, setRow_heap w g cur _ e _ hg, hroom, hcm, ?_, ?_⟩⟩, ⟨rfl, rfl, rfl, by simp, fun k hk hn => setRow_other w g k _ (fun e => hn (by simp [e, Value.ownBlock]))⟩, .inl rfl⟩
        · simp only [List.size_toArray, List.length_append, List.length_take, List.length_drop, List.length_replicate, hcl]
          omega
        · rw [Nat.mul_one] at htake ⊢
          show ((cur.toList.take n ++ List.replicate k z) ++ cur.toList.drop (n + k)).take (n + k) = _
          rw [htake, ← hlen]
          exact List.take_left
end
theorem SepF.perm {F : List Nat} {w0 wr : World} {ts us : List Thing} (h : SepF F w0 wr ts) (hp : us.Perm ts) : SepF F w0 wr us :=
  h.conv (List.Perm.flatMap_right _ hp) fun u hu => h.hold u (hp.mem_iff.1 hu)
/-- the third thing in front -/
theorem SepF.front3 {F : List Nat} {w0 wr : World} {ts : List Thing} {a b c : Thing} (h : SepF F w0 wr (a :: b :: c :: ts)) : SepF F w0 wr (c :: a :: b :: ts) :=
  h.perm (List.perm_middle (l₁ := [a, b])).symm
/-- append of zero values, on one of the things -/
theorem SepF.zeros {P : Program} {α : Type} {E : Rep α} {val : α → Value} {F : List Nat} {w0 w : World} {ts : List Thing} {i : Nat} {xs : List α} {v : Value} {fp : List Nat} {z0 : α} (hF : Flat1 E val) (h : SepF F w0 w ts) (t tn ty e : TypeId) (ii : TypeInfo) (z : Value) (bytes : Nat) (hi : ts[i]? = some (tsl E e xs v fp)) (ht : P.underlying t = some (.slice e)) (htn : P.underlying tn = some (.int .i64)) (hin : P.info? e = some ii) (hz : ii.zero = some z) (hsize : ii.size = 1) (hby : ii.bytes = bytes) (hzs : z.cells = #[z]) (hz1 : z.oneCell' = true)
    (hv : val z0 = z) (hz0 : ∀ w, E.own w z0 [z] []) (k : Nat) (hnk : xs.length + k ≤ maxLen) (hbytes : (xs.length + k) * bytes ≤ 140737488355328) :
    ∃ v' w' fp', (Builtin.append_ #[t, tn] ty #[v, .int .i64 k]).run P w = .ok v' w' ∧ SepF F w0 w' (ts.set i (tsl E e (xs ++ List.replicate k z0) v' fp')) := by
  have hs : SlOwn E e w xs v fp := h.at_ i hi
  obtain ⟨ho, hfp, hx⟩ := hF.owns hs
  obtain ⟨v', w', h1, h2, h3, h4⟩ := run_append_own_zeros (P := P) w (ty := ty) t tn e ii z bytes ht htn hin hz hsize hby hzs hz1 v _ _ ho k hnk hbytes
  refine ⟨v', w', v'.ownBlock.toList, h1, h.upd hi ⟨h3.os, h3.tape, h3.output, h3.size, fun b hb hn => h3.block b hb (fun e => hn (by rw [hfp]; show b ∈ v.ownBlock.toList; rw [← e]; simp))⟩ (t' := tsl E e (xs ++ List.replicate k z0) v' v'.ownBlock.toList) ?_ (by simp only [tsl]; cases v'.ownBlock <;> simp) (fun b hb => ?_)⟩
  · refine hF.row ?_ (fun x hm => ?_)
    · rw [List.length_append, List.length_replicate, List.map_append, List.map_replicate, hv]
      exact h2
    · rcases List.mem_append.1 hm with hm | hm
      · exact hx x hm _
      · rw [(List.mem_replicate.1 hm).2, hv]; exact hz0 _
  · simp only [tsl] at hb ⊢
    rw [hfp]
    rcases h4 with h4 | h4
    · rw [h4] at hb; exact .inl hb
    · rw [h4] at hb; simp at hb; exact .inr (by omega)
end Mm
end Go.Proofs.Ytkodfflnpalbbaa

/-
  slices.Insert at elements of several cells: the rows before and behind, and what an owned slice is then. No program in sight. No conditions.
-/
namespace Go.Proofs.Ytkodfflnpalbbaa
open Go.RowKit
namespace Mm
section
variable {P : Program}
/-- copy, at elements of s cells: all is read before anything is written -/
theorem run_copy_k (w : World) (dT sT ty elem : TypeId) (s b o dLen dCap : Nat) (a : Addr) (sLen sCap : Nat) (cs : List Value)
    (hu : P.underlying dT = some (.slice elem)) (hs : (P.info? elem).map (·.size) = some s) (hn : cs.length = Nat.min sLen dLen * s)
    (hsrc : ∀ j v, cs[j]? = some v → w.cell? (a.add j) = some v) (hc : ∀ j, j < cs.length → (w.cell? ⟨b, o + j, none⟩).isSome = true) (hf : ∀ j, j < cs.length → w.frozen? ⟨b, o + j, none⟩ = false) (h1 : ∀ v ∈ cs, v.oneCell' = true) :
    (Builtin.copy_ #[dT, sT] ty #[.slice (some ⟨b, o, none⟩) dLen dCap, .slice (some a) sLen sCap]).run P w = .ok (goInt (Nat.min sLen dLen)) (w.setCells b o cs) := by
  have hl := run_loadCells_list (P := P) w a cs hsrc
  have hst := run_storeCells_cells (P := P) b o cs 0 w (by simpa using hc) (by simpa using hf) h1
  cases hq : P.info? elem with
  | none => simp [hq] at hs
  | some i =>
    have hi : i.size = s := by simpa [hq] using hs
    simp [Builtin.copy_, run_underlying hu, Builtin.lenOf, Builtin.firstCells, sizeOf, typeInfo, hq, hi, ← hn, hl, hst]
end
theorem ins_rows {cur cells ct : List Value} {N K S : Nat} (ht : cur.take N = cells) (hl : cells.length = N) (hK : K ≤ N) (hS : ct.length = S) (hroom : N + S ≤ cur.length) :
    (setList (setList cur (K + S) (cells.drop K)) K ct).take (N + S) = cells.take K ++ ct ++ cells.drop K := by
  apply List.ext_getElem?
  intro j
  rw [List.getElem?_take]
  by_cases hj : j < N + S
  · rw [if_pos hj, setList_get _ _ _ _ (by rw [setList_len, hS]; omega), setList_get _ _ _ _ (by rw [List.length_drop, hl]; omega), List.length_drop, hl, hS]
    by_cases h1 : j < K
    · rw [if_neg (by omega), if_neg (by omega), List.append_assoc, List.getElem?_append_left (by rw [List.length_take, hl]; omega), List.getElem?_take, if_pos h1, ← ht, List.getElem?_take, if_pos (by omega)]
    · by_cases h2 : j < K + S
      · rw [if_pos ⟨by omega, h2⟩, List.append_assoc, List.getElem?_append_right (by rw [List.length_take, hl]; omega), List.length_take, hl, Nat.min_eq_left hK, List.getElem?_append_left (by omega)]
      · rw [if_neg (by omega), if_pos (by omega), List.getElem?_append_right (by rw [List.length_append, List.length_take, hl]; omega), List.length_append, List.length_take, hl, Nat.min_eq_left hK, hS]
  · rw [if_neg hj, List.getElem?_eq_none (by rw [List.length_append, List.length_append, List.length_take, List.length_drop, hl, hS]; omega)]
theorem ins_rows' {cur cells ct : List Value} {N K S : Nat} (ht : cur.take K = cells.take K) (hl : cells.length = N) (hK : K ≤ N) (hS : ct.length = S) (hroom : N + S ≤ cur.length) :
    (setList (setList cur K ct) (K + S) (cells.drop K)).take (N + S) = cells.take K ++ ct ++ cells.drop K := by
  apply List.ext_getElem?
  intro j
  rw [List.getElem?_take]
  by_cases hj : j < N + S
  · rw [if_pos hj, setList_get _ _ _ _ (by rw [setList_len, List.length_drop, hl]; omega), setList_get _ _ _ _ (by rw [hS]; omega), List.length_drop, hl, hS]
    by_cases h1 : j < K
    · have h2 : cur[j]? = (cells.take K)[j]? := by rw [← ht, List.getElem?_take, if_pos h1]
      rw [if_neg (by omega), if_neg (by omega), List.append_assoc, List.getElem?_append_left (by rw [List.length_take, hl]; omega), h2]
    · by_cases h2 : j < K + S
      · rw [if_neg (by omega), if_pos ⟨by omega, h2⟩, List.append_assoc, List.getElem?_append_right (by rw [List.length_take, hl]; omega), List.length_take, hl, Nat.min_eq_left hK, List.getElem?_append_left (by omega)]
      · rw [if_pos (by omega), List.getElem?_append_right (by rw [List.length_append, List.length_take, hl]; omega), List.length_append, List.length_take, hl, Nat.min_eq_left hK, hS]
  · rw [if_neg hj, List.getElem?_eq_none (by rw [List.length_append, List.length_append, List.length_take, List.length_drop, hl, hS]; omega)]
/-- one element among the others, at k -/
def insertAt {α : Type} (l : List α) (k : Nat) (x : α) : List α := l.take k ++ x :: l.drop k
theorem insertAt_len {α : Type} (l : List α) (k : Nat) (x : α) : (insertAt l k x).length = l.length + 1 := by
  unfold insertAt
  rw [List.length_append, List.length_cons, ← List.take_append_drop k l, List.length_append]
  simp; omega
theorem insertAt_map {α β : Type} (f : α → β) (l : List α) (k : Nat) (x : α) : (insertAt l k x).map f = insertAt (l.map f) k (f x) := by
  unfold insertAt
  rw [List.map_append, List.map_take, List.map_cons, List.map_drop]
theorem rowsMap_take {β γ : Type} (f : β → List γ) (s : Nat) : ∀ (l : List β) (k : Nat), (∀ y ∈ l, (f y).length = s) → (l.take k).flatMap f = (l.flatMap f).take (k * s)
  | [], k, _ => by simp
  | z :: t, 0, _ => by simp
  | z :: t, k + 1, h => by
    have hz := h z (by simp)
    have e0 : (k + 1) * s = s + k * s := by rw [Nat.add_mul]; omega
    have e1 : (f z).take (s + k * s) = f z := List.take_of_length_le (by omega)
    rw [List.take_succ_cons, List.flatMap_cons, List.flatMap_cons, rowsMap_take f s t k (fun y hy => h y (by simp [hy])), List.take_append, hz, e0, e1, Nat.add_sub_cancel_left]
theorem rowsMap_drop {β γ : Type} (f : β → List γ) (s : Nat) : ∀ (l : List β) (k : Nat), (∀ y ∈ l, (f y).length = s) → (l.drop k).flatMap f = (l.flatMap f).drop (k * s)
  | [], k, _ => by simp
  | z :: t, 0, _ => by simp
  | z :: t, k + 1, h => by
    have hz := h z (by simp)
    have e0 : (k + 1) * s = s + k * s := by rw [Nat.add_mul]; omega
    have e1 : (f z).drop (s + k * s) = [] := List.drop_of_length_le (by omega)
    rw [List.drop_succ_cons, List.flatMap_cons, rowsMap_drop f s t k (fun y hy => h y (by simp [hy])), List.drop_append, hz, e0, e1, Nat.add_sub_cancel_left, List.nil_append]
theorem insertAt_flat {β γ : Type} (f : β → List γ) (s : Nat) (l : List β) (k : Nat) (x : β) (h : ∀ y ∈ l, (f y).length = s) : (insertAt l k x).flatMap f = (l.flatMap f).take (k * s) ++ f x ++ (l.flatMap f).drop (k * s) := by
  unfold insertAt
  rw [List.flatMap_append, List.flatMap_cons, rowsMap_take f s l k h, rowsMap_drop f s l k h, List.append_assoc]
theorem insertAt_get {α : Type} {l : List α} {k i : Nat} {x y : α} (hk : k ≤ l.length) (h : (insertAt l k x)[i]? = some y) : (i < k ∧ l[i]? = some y) ∨ (i = k ∧ y = x) ∨ (k < i ∧ l[i - 1]? = some y) := by
  unfold insertAt at h
  by_cases h1 : i < k
  · rw [List.getElem?_append_left (by rw [List.length_take]; omega), List.getElem?_take, if_pos h1] at h
    exact .inl ⟨h1, h⟩
  · rw [List.getElem?_append_right (by rw [List.length_take]; omega), List.length_take, Nat.min_eq_left hk] at h
    by_cases h2 : i = k
    · subst h2
      rw [Nat.sub_self] at h
      exact .inr (.inl ⟨rfl, by simpa using h.symm⟩)
    · rw [show i - k = (i - k - 1) + 1 by omega, List.getElem?_cons_succ, List.getElem?_drop, show k + (i - k - 1) = i - 1 by omega] at h
      exact .inr (.inr ⟨by omega, h⟩)
theorem insertAt_perm {α : Type} (l : List α) (k : Nat) (x : α) : (insertAt l k x).Perm (x :: l) := by
  unfold insertAt
  refine (List.perm_middle).trans ?_
  rw [List.take_append_drop]
section
variable {α : Type} {E : Rep α} {e : TypeId} {w w' : World} {xs : List α} {v v' : Value} {fp : List Nat}
/-- slices.Insert(out, k, x): what its law asks, and what its answer is worth -/
theorem SlOwn.insert (h : SlOwn E e w xs v fp) {k : Nat} (hk : k ≤ xs.length) {x : α} {cx : List Value} {fx : List Nat} (hx : E.own w x cx fx) (hnd : fp.Nodup) (hxd : fx.Nodup) (hdis : ∀ b, b ∈ fx → b ∉ fp) :
    ∃ l, w.ownsRow 0 e E.size v xs.length l ∧ (∀ u ∈ l, u.oneCell' = true) ∧ ∀ v' w', w'.ownsRow 0 e E.size v' (xs.length + 1) (l.take (k * E.size) ++ cx ++ l.drop (k * E.size)) → w.grownBy w' v.ownBlock → (v'.ownBlock = v.ownBlock ∨ ∀ g, v'.ownBlock = some g → w.heap.size ≤ g) →
      ∃ fp', SlOwn E e w' (insertAt xs k x) v' fp' ∧ fp'.Nodup ∧ ∀ b, b ∈ fp' → b ∈ fp ∨ b ∈ fx ∨ w.heap.size ≤ b := by
  have hlt := h.olt
  have hxlt := E.olt hx
  obtain ⟨es, he, ho, rfl⟩ := h
  refine ⟨_, ho, fun u hu => ?_, fun v' w' ho' hg hat => ?_⟩
  · obtain ⟨y, hy, hu⟩ := List.mem_flatMap.1 hu
    obtain ⟨z, _, hz⟩ := he.mem hy
    exact E.one hz u hu
  have hkeep : ∀ b, b ∈ es.flatMap (·.2) → w'.heap[b]? = w.heap[b]? := fun b hb => hg.block b (hlt b (List.mem_append_right _ hb)) (fun hv => by
    rw [List.nodup_append] at hnd
    exact hnd.2.2 b (by rw [← hv]; simp) b hb rfl)
  have hkx : ∀ b, b ∈ fx → w'.heap[b]? = w.heap[b]? := fun b hb => hg.block b (hxlt b hb) (fun hv => hdis b hb (List.mem_append_left _ (by rw [← hv]; simp)))
  have hke : k ≤ es.length := by rw [he.1]; exact hk
  have hp : ((insertAt es k (cx, fx)).flatMap (·.2)).Perm (fx ++ es.flatMap (·.2)) := by
    have := (insertAt_perm es k (cx, fx)).flatMap_right (fun y => y.2)
    rwa [List.flatMap_cons] at this
  refine ⟨_, ⟨insertAt es k (cx, fx), ⟨by rw [insertAt_len, insertAt_len, he.1], fun i y z hy hz => ?_⟩, ?_, rfl⟩, ?_, ?_⟩
  · rcases insertAt_get hk hy with ⟨h1, h2⟩ | ⟨h1, h2⟩ | ⟨h1, h2⟩
    · rcases insertAt_get hke hz with ⟨g1, g2⟩ | ⟨g1, g2⟩ | ⟨g1, g2⟩
      · exact E.okeep (he.2 i y z h2 g2) fun b hb => hkeep b (List.mem_flatMap.2 ⟨z, List.mem_of_getElem? g2, hb⟩)
      · omega
      · omega
    · rcases insertAt_get hke hz with ⟨g1, g2⟩ | ⟨g1, g2⟩ | ⟨g1, g2⟩
      · omega
      · subst h2; subst g2
        exact E.okeep hx hkx
      · omega
    · rcases insertAt_get hke hz with ⟨g1, g2⟩ | ⟨g1, g2⟩ | ⟨g1, g2⟩
      · omega
      · omega
      · exact E.okeep (he.2 _ y z h2 g2) fun b hb => hkeep b (List.mem_flatMap.2 ⟨z, List.mem_of_getElem? g2, hb⟩)
  · rw [insertAt_len, insertAt_flat (·.1) E.size es k (cx, fx) he.len]
    exact ho'
  · have hvn : ∀ b, b ∈ v'.ownBlock.toList → b ∉ es.flatMap (·.2) ∧ b ∉ fx := fun b hb => by
      rcases hat with hat | hat
      · rw [hat] at hb
        rw [List.nodup_append] at hnd
        exact ⟨fun hm => hnd.2.2 b hb b hm rfl, fun hm => hdis b hm (List.mem_append_left _ hb)⟩
      · have hb' := hat b (by simpa using hb)
        exact ⟨fun hm => by have := hlt _ (List.mem_append_right _ hm); omega, fun hm => by have := hxlt _ hm; omega⟩
    have h1 : v'.ownBlock.toList.Nodup := by cases v'.ownBlock <;> simp
    rw [List.nodup_append] at hnd ⊢
    refine ⟨h1, ?_, fun a ha b hb hab => ?_⟩
    · rw [hp.nodup_iff, List.nodup_append]
      exact ⟨hxd, hnd.2.1, fun a ha b hb hab => by
        subst hab
        exact hdis a ha (List.mem_append_right _ hb)⟩
    · subst hab
      rcases List.mem_append.1 (hp.mem_iff.1 hb) with hb | hb
      · exact (hvn a ha).2 hb
      · exact (hvn a ha).1 hb
  · intro b hb
    rcases List.mem_append.1 hb with hb | hb
    · rcases hat with hat | hat
      · rw [hat] at hb
        exact .inl (List.mem_append_left _ hb)
      · exact .inr (.inr (hat b (by simpa using hb)))
    · rcases List.mem_append.1 (hp.mem_iff.1 hb) with hb | hb
      · exact .inr (.inl hb)
      · exact .inl (List.mem_append_right _ hb)
end
section
variable {F : List Nat} {w0 wr W2 : World} {ts : List Thing} {s : Thing} {i j : Nat} {α : Type} {E : Rep α} {e : TypeId} {xs : List α} {v : Value} {fp : List Nat} {x : α} {cx : List Value}
/-- slices.Insert, the new element a thing of the list -/
theorem SepF.insert (h : SepF F w0 wr ts) (i j : Nat) (hij : i ≠ j) {k : Nat} (hi : ts[i]? = some (tsl E e xs v fp)) (hk : k ≤ xs.length) (hj : ts[j]? = some s) (hb : Below wr.heap.size wr W2) (hx : ∀ W, s.holds W → E.own W x cx s.fp) :
    ∃ l, W2.ownsRow 0 e E.size v xs.length l ∧ (∀ u ∈ l, u.oneCell' = true) ∧ ∀ v' w1, w1.ownsRow 0 e E.size v' (xs.length + 1) (l.take (k * E.size) ++ cx ++ l.drop (k * E.size)) → W2.grownBy w1 v.ownBlock → (v'.ownBlock = v.ownBlock ∨ ∀ g, v'.ownBlock = some g → W2.heap.size ≤ g) →
      ∃ fp', SepF F w0 w1 ((ts.set j tnil).set i (tsl E e (insertAt xs k x) v' fp')) := by
  have h2 := h.step hb
  have ho : SlOwn E e W2 xs v fp := h2.at_ i hi
  have hs := hx _ (h2.at_ j hj)
  obtain ⟨l, k1, k0, k2⟩ := ho.insert hk hs (h2.ndat hi) (h2.ndat hj) (fun b hb hm => h2.apart hi hj hij b hm hb)
  refine ⟨l, k1, k0, fun v' w1 g1 g2 g3 => ?_⟩
  obtain ⟨fp', m1, m2, m3⟩ := k2 v' w1 g1 g2 g3
  refine ⟨fp', h2.upd2 hij hi hj ?_ m1 m2 (fun b hb => ?_)⟩
  · exact ⟨g2.os, g2.tape, g2.output, g2.size, fun k hk hn => g2.block k hk (fun hh => hn (List.mem_append_left _ (row_in ho hh.symm)))⟩
  · rcases m3 b hb with h | h | h
    · exact .inl h
    · exact .inr (.inl h)
    · exact .inr (.inr (by omega))
end
end Mm
end Go.Proofs.Ytkodfflnpalbbaa

/-
  Plain heads: a measurement put into the rows of a head. No program in sight. No conditions.
-/
namespace Go.Proofs.Ytkodfflnpalbbaa
open Go.RowKit
namespace Pl
theorem rcmp_lt : ∀ a b : List UInt8, decide (Lib.compareBytes a b < 0) = Op.bytesLess a b
  | [], [] => rfl
  | [], _ :: _ => rfl
  | _ :: _, [] => rfl
  | a :: x, b :: y => by
    rw [Lib.compareBytes, Op.bytesLess]
    by_cases h1 : a < b
    · simp [h1]
    · by_cases h2 : b < a
      · have h3 : (a == b) = false := by
          rw [beq_eq_false_iff_ne]
          intro e
          subst e
          exact UInt8.lt_irrefl _ h2
        simp [h1, h2, h3]
      · have h3 : a = b := by
          apply UInt8.toNat_inj.1
          have k1 : ¬ a.toNat < b.toNat := h1
          have k2 : ¬ b.toNat < a.toNat := h2
          omega
        subst h3
        simp [UInt8.lt_irrefl]
        have := rcmp_lt x y
        simpa using this
theorem rcmp_zero : ∀ a b : List UInt8, Lib.compareBytes a b = 0 ↔ a = b
  | [], [] => by simp [Lib.compareBytes]
  | [], _ :: _ => by simp [Lib.compareBytes]
  | _ :: _, [] => by simp [Lib.compareBytes]
  | a :: x, b :: y => by
    rw [Lib.compareBytes]
    by_cases h1 : a < b
    · rw [if_pos h1]
      constructor
      · intro h; omega
      · intro h; injection h with h _; subst h; exact absurd h1 (UInt8.lt_irrefl _)
    · rw [if_neg h1]
      by_cases h2 : b < a
      · rw [if_pos h2]
        constructor
        · intro h; omega
        · intro h; injection h with h _; subst h; exact absurd h2 (UInt8.lt_irrefl _)
      · have h3 : a = b := by
          apply UInt8.toNat_inj.1
          have k1 : ¬ a.toNat < b.toNat := h1
          have k2 : ¬ b.toNat < a.toNat := h2
          omega
        subst h3
        rw [if_neg h2, rcmp_zero x y]
        simp
def rnm (x : Row) : ByteArray := x.Name
def RSort (l : List Row) : Prop := ∀ (i j : Nat) x y, i < j → l[i]? = some x → l[j]? = some y → lessB (rnm x) (rnm y) = true
def rpos (s : ByteArray) : List Row → Nat
  | [] => 0
  | x :: r => if lessB (rnm x) s = true then rpos s r + 1 else 0
theorem RSort.tail {x : Row} {l : List Row} (h : RSort (x :: l)) : RSort l := fun i j a b hij ha hb => h (i + 1) (j + 1) a b (by omega) ha hb
theorem rpos_le (s : ByteArray) : ∀ l, rpos s l ≤ l.length
  | [] => Nat.le_refl _
  | x :: r => by
    unfold rpos
    have := rpos_le s r
    split <;> simp <;> omega
theorem rpos_lt (s : ByteArray) : ∀ (l : List Row) (i : Nat) (x : Row), i < rpos s l → l[i]? = some x → lessB (rnm x) s = true
  | [], _, _, h, _ => by simp [rpos] at h
  | y :: r, i, x, h, hx => by
    unfold rpos at h
    split at h
    · rename_i hy
      cases i with
      | zero => simp at hx; subst hx; exact hy
      | succ i => exact rpos_lt s r i x (by omega) (by simpa using hx)
    · omega
theorem rless_trans {a b c : ByteArray} (h : lessB a b = true) (k : lessB b c = true) : lessB a c = true := bless_trans h k
theorem rless_irrefl (a : ByteArray) : lessB a a = false := bless_irrefl _
theorem rpos_ge (s : ByteArray) : ∀ (l : List Row), RSort l → ∀ (i : Nat) (x : Row), rpos s l ≤ i → l[i]? = some x → lessB (rnm x) s = false
  | [], _, _, _, _, h => by simp at h
  | y :: r, hs, i, x, h, hx => by
    unfold rpos at h
    split at h
    · cases i with
      | zero => omega
      | succ i => exact rpos_ge s r hs.tail i x (by omega) (by simpa using hx)
    · rename_i hy
      cases i with
      | zero => simp at hx; subst hx; simpa using hy
      | succ i =>
        have h1 := hs 0 (i + 1) y x (by omega) rfl hx
        cases hc : lessB (rnm x) s with
        | false => rfl
        | true => exact absurd (rless_trans h1 hc) hy
theorem rless_total {a b : ByteArray} (h : a ≠ b) : lessB a b = true ∨ lessB b a = true := bless_total (fun e => h (ba_inj e))
theorem RSort.set {l : List Row} (h : RSort l) {p : Nat} {o o' : Row} (hp : l[p]? = some o) (he : rnm o' = rnm o) : RSort (l.set p o') := by
  have get : ∀ i y, (l.set p o')[i]? = some y → ∃ z, l[i]? = some z ∧ rnm z = rnm y := fun i y hy => by
    by_cases hi : p = i
    · subst hi
      rw [List.getElem?_set_self (List.getElem?_eq_some_iff.1 hp).1] at hy
      injection hy with hy
      subst hy
      exact ⟨o, hp, he.symm⟩
    · rw [List.getElem?_set_ne hi] at hy
      exact ⟨y, hy, rfl⟩
  intro i j x y hij hx hy
  obtain ⟨x', hx', ex⟩ := get i x hx
  obtain ⟨y', hy', ey⟩ := get j y hy
  rw [← ex, ← ey]
  exact h i j x' y' hij hx' hy'
theorem RSort.insert {l : List Row} (h : RSort l) {t : Row} (hm : ∀ o, l[rpos (rnm t) l]? = some o → rnm o ≠ rnm t) : RSort (Mm.insertAt l (rpos (rnm t) l) t) := by
  have hk := rpos_le (rnm t) l
  have hgt : ∀ (i : Nat) (x : Row), rpos (rnm t) l ≤ i → l[i]? = some x → lessB (rnm t) (rnm x) = true := fun i x hi hx => by
    have hlt := (List.getElem?_eq_some_iff.1 hx).1
    obtain ⟨o, ho⟩ : ∃ o, l[rpos (rnm t) l]? = some o := ⟨_, List.getElem?_eq_getElem (by omega)⟩
    have h1 := rpos_ge (rnm t) l h _ o (Nat.le_refl _) ho
    have h2 : lessB (rnm t) (rnm o) = true := by
      rcases rless_total (hm o ho) with h3 | h3
      · rw [h1] at h3; cases h3
      · exact h3
    by_cases he : rpos (rnm t) l = i
    · rw [he, hx] at ho
      injection ho with ho
      rw [ho]; exact h2
    · exact rless_trans h2 (h _ _ o x (by omega) ho hx)
  intro i j x y hij hx hy
  rcases Mm.insertAt_get hk hx with ⟨a1, a2⟩ | ⟨a1, a2⟩ | ⟨a1, a2⟩
  · rcases Mm.insertAt_get hk hy with ⟨b1, b2⟩ | ⟨b1, b2⟩ | ⟨b1, b2⟩
    · exact h i j x y hij a2 b2
    · rw [b2]; exact rpos_lt _ l i x a1 a2
    · exact rless_trans (rpos_lt _ l i x a1 a2) (hgt _ y (by omega) b2)
  · rcases Mm.insertAt_get hk hy with ⟨b1, b2⟩ | ⟨b1, b2⟩ | ⟨b1, b2⟩
    · omega
    · omega
    · rw [a2]; exact hgt _ y (by omega) b2
  · rcases Mm.insertAt_get hk hy with ⟨b1, b2⟩ | ⟨b1, b2⟩ | ⟨b1, b2⟩
    · omega
    · omega
    · exact h (i - 1) (j - 1) x y (by omega) a2 b2
def lastAt (r : Row) : Int := (sampleAt r.Samples (r.Samples.length - 1)).At
/-- what a head is that took a measurement into row p, or found it late; the code -/
def hitS (h : Head) (p : Nat) (r : Row) (x : Say) : Head × Int :=
  if lastAt r = x.At then (⟨h.Rows, h.Offset + 1⟩, 2) else if x.At < lastAt r then (⟨h.Rows, h.Offset + 1⟩, 3) else if r.Samples.length = 40 then (⟨h.Rows, h.Offset + 1⟩, 4)
  else (⟨h.Rows.set p ⟨r.Name, r.Samples ++ [⟨x.At, x.Value⟩]⟩, h.Offset + 1⟩, 1)
def missS (h : Head) (p : Nat) (x : Say) : Head × Int :=
  if h.Rows.length = 8 then (⟨h.Rows, h.Offset + 1⟩, 4) else (⟨Mm.insertAt h.Rows p ⟨x.Name, [⟨x.At, x.Value⟩]⟩, h.Offset + 1⟩, 1)
def takeS (h : Head) (x : Say) : Head × Int :=
  match h.Rows[rpos x.Name h.Rows]? with
  | some r => if r.Name = x.Name then hitS h (rpos x.Name h.Rows) r x else missS h (rpos x.Name h.Rows) x
  | none => missS h (rpos x.Name h.Rows) x
theorem takeS_hit {h : Head} {x : Say} {r : Row} (hr : h.Rows[rpos x.Name h.Rows]? = some r) (he : r.Name = x.Name) : takeS h x = hitS h (rpos x.Name h.Rows) r x := by
  unfold takeS; rw [hr]; exact if_pos he
theorem takeS_miss {h : Head} {x : Say} (hm : ∀ o, h.Rows[rpos x.Name h.Rows]? = some o → rnm o ≠ x.Name) : takeS h x = missS h (rpos x.Name h.Rows) x := by
  unfold takeS
  split
  · rename_i r hr
    exact if_neg (hm r hr)
  · rfl
/-- what is true of every head that a program makes -/
structure HW (h : Head) : Prop where
  srt : RSort h.Rows
  ne : ∀ r, r ∈ h.Rows → r.Samples ≠ [] ∧ r.Samples.length ≤ 40
  len : h.Rows.length ≤ 8
theorem HW.zero : HW ⟨[], 0⟩ := ⟨fun i j x y _ h => by simp at h, fun r h => by simp at h, Nat.zero_le _⟩
theorem HW.hit {h : Head} {x : Say} {p : Nat} {r : Row} (k : HW h) (hr : h.Rows[p]? = some r) : HW (hitS h p r x).1 := by
  have same : HW ⟨h.Rows, h.Offset + 1⟩ := ⟨k.srt, k.ne, k.len⟩
  unfold hitS
  split
  · exact same
  · split
    · exact same
    · split
      · exact same
      · rename_i h40
        refine ⟨k.srt.set hr rfl, fun z hz => ?_, by rw [List.length_set]; exact k.len⟩
        rcases List.mem_or_eq_of_mem_set hz with h1 | rfl
        · exact k.ne z h1
        · have h2 := (k.ne r (List.mem_of_getElem? hr)).2
          exact ⟨by simp, by show (r.Samples ++ [_]).length ≤ 40; rw [List.length_append]; simp; omega⟩
theorem HW.miss {h : Head} {x : Say} (k : HW h) (hm : ∀ o, h.Rows[rpos x.Name h.Rows]? = some o → rnm o ≠ x.Name) : HW (missS h (rpos x.Name h.Rows) x).1 := by
  unfold missS
  split
  · exact ⟨k.srt, k.ne, k.len⟩
  · rename_i h8
    refine ⟨k.srt.insert (t := ⟨x.Name, [⟨x.At, x.Value⟩]⟩) hm, fun z hz => ?_, ?_⟩
    · rcases List.mem_cons.1 ((Mm.insertAt_perm _ _ _).mem_iff.1 hz) with rfl | h1
      · exact ⟨by simp, by simp⟩
      · exact k.ne z h1
    · have := k.len
      show (Mm.insertAt h.Rows _ _).length ≤ 8
      rw [Mm.insertAt_len]; omega
theorem HW.take {h : Head} (k : HW h) (x : Say) : HW (takeS h x).1 := by
  by_cases hh : ∃ r, h.Rows[rpos x.Name h.Rows]? = some r ∧ r.Name = x.Name
  · obtain ⟨r, hr, he⟩ := hh
    rw [takeS_hit hr he]; exact k.hit hr
  · have hm : ∀ o, h.Rows[rpos x.Name h.Rows]? = some o → rnm o ≠ x.Name := fun o ho he => hh ⟨o, ho, he⟩
    rw [takeS_miss hm]; exact k.miss hm
theorem hitS_off (h : Head) (p : Nat) (r : Row) (x : Say) : (hitS h p r x).1.Offset = h.Offset + 1 := by
  unfold hitS; repeat' split
  all_goals rfl
theorem missS_off (h : Head) (p : Nat) (x : Say) : (missS h p x).1.Offset = h.Offset + 1 := by
  unfold missS; repeat' split
  all_goals rfl
theorem takeS_off (h : Head) (x : Say) : (takeS h x).1.Offset = h.Offset + 1 := by
  unfold takeS
  split
  · split
    · exact hitS_off _ _ _ _
    · exact missS_off _ _ _
  · exact missS_off _ _ _
theorem takeS_code (h : Head) (x : Say) : 1 ≤ (takeS h x).2 ∧ (takeS h x).2 ≤ 4 := by
  have k1 : ∀ p r, 1 ≤ (hitS h p r x).2 ∧ (hitS h p r x).2 ≤ 4 := fun p r => by
    unfold hitS; repeat' split
    all_goals (constructor <;> (dsimp only; omega))
  have k2 : ∀ p, 1 ≤ (missS h p x).2 ∧ (missS h p x).2 ≤ 4 := fun p => by
    unfold missS; repeat' split
    all_goals (constructor <;> (dsimp only; omega))
  unfold takeS
  split
  · split
    · exact k1 _ _
    · exact k2 _
  · exact k2 _
/-- measurements, one after another -/
def foldS (h : Head) (l : List Say) : Head := l.foldl (fun h x => (takeS h x).1) h
theorem foldS_snoc (h : Head) (l : List Say) (x : Say) : foldS h (l ++ [x]) = (takeS (foldS h l) x).1 := by unfold foldS; rw [List.foldl_append]; rfl
def foldC (h : Head) : List Say → List Int
  | [] => []
  | x :: l => (takeS h x).2 :: foldC (takeS h x).1 l
theorem foldC_snoc (l : List Say) (x : Say) : ∀ h, foldC h (l ++ [x]) = foldC h l ++ [(takeS (foldS h l) x).2] := by
  induction l with
  | nil => intro h; rfl
  | cons y l ih => intro h; show _ :: foldC _ (l ++ [x]) = _; rw [ih]; rfl
theorem foldC_len (l : List Say) : ∀ h, (foldC h l).length = l.length := by
  induction l with
  | nil => intro h; rfl
  | cons y l ih => intro h; show (foldC _ l).length + 1 = l.length + 1; rw [ih]
theorem HW.fold {h : Head} (k : HW h) (l : List Say) : HW (foldS h l) := by
  induction l generalizing h with
  | nil => exact k
  | cons x l ih => exact ih (k.take x)
theorem foldS_off (l : List Say) : ∀ h : Head, (foldS h l).Offset = h.Offset + l.length := by
  induction l with
  | nil => intro h; simp [foldS]
  | cons x l ih =>
    intro h
    show (foldS (takeS h x).1 l).Offset = _
    rw [ih, takeS_off, List.length_cons]; omega
theorem fold_next {h : Head} {l : List Say} {k : Nat} {x : Say} (hx : l[k]? = some x) : foldS h (l.take (k + 1)) = (takeS (foldS h (l.take k)) x).1 ∧ foldC h (l.take (k + 1)) = foldC h (l.take k) ++ [(takeS (foldS h (l.take k)) x).2] := by
  obtain ⟨hk, e⟩ := List.getElem?_eq_some_iff.1 hx
  rw [List.take_succ_eq_append_getElem hk, e]
  exact ⟨foldS_snoc _ _ _, foldC_snoc _ _ _⟩
def sayOk (x : Say) : Bool := word false x.Name.data.toList && sampleOk ⟨x.At, x.Value⟩
def tells (s : HouseStep) : Bool := decide (s.Kind = 1) && sayOk s.What
def toldS (l : List HouseStep) : List Say := (l.filter tells).map (·.What)
theorem toldS_next {l : List HouseStep} {k : Nat} {s : HouseStep} (hs : l[k]? = some s) : toldS (l.take (k + 1)) = if tells s = true then toldS (l.take k) ++ [s.What] else toldS (l.take k) := by
  obtain ⟨hk, e⟩ := List.getElem?_eq_some_iff.1 hs
  unfold toldS
  rw [List.take_succ_eq_append_getElem hk, e, List.filter_append, List.map_append]
  by_cases h : tells s = true
  · rw [if_pos h, List.filter_cons_of_pos h]; rfl
  · rw [if_neg h, List.filter_cons_of_neg h]; simp
theorem toldS_ok {l : List HouseStep} {x : Say} (h : x ∈ toldS l) : sayOk x = true := by
  obtain ⟨s, hs, rfl⟩ := List.mem_map.1 h
  have := (List.mem_filter.1 hs).2
  unfold tells at this
  rw [Bool.and_eq_true] at this
  exact this.2
theorem toldS_len (l : List HouseStep) : (toldS l).length ≤ l.length := by unfold toldS; rw [List.length_map]; exact List.length_filter_le _ _
def playPlain (l : List HouseStep) : Head × Bool := if l.length ≤ 60 then (foldS ⟨[], 0⟩ (toldS l), true) else (⟨[], 0⟩, false)
end Pl
end Go.Proofs.Ytkodfflnpalbbaa

/-
  Contracts of the program's and the reference's functions on words and hashes. No conditions.
-/

namespace Go.Proofs.Ytkodfflnpalbbaa
open Go.RowKit

def Pl.ret2 (x : Int × Bool) : Ending := .returned (.tuple #[.int .i64 x.1, .bool x.2])
theorem ret_int {k : IntKind} {a b : Int} (h : a = b) : Ending.returned (.int k a) = .returned (.int k b) := by rw [h]
theorem ret_bool {a b : Bool} (h : a = b) : Ending.returned (.bool a) = .returned (.bool b) := by rw [h]

theorem within_c (n a b : Int) (w : World) :
    Calls Try.prog 21 #[.int .i64 n, .int .i64 a, .int .i64 b] w fun e w' => e = .returned (.bool (Pl.isIn n a b)) ∧ w = w' := by
  unfold Pl.isIn
  by_cases h1 : a ≤ n
  · by_cases h2 : n ≤ b
    · go_enter Try.func21, Try.ntmps21
      go_wp2
      go_ret
      exact ⟨ret_bool (by simp [*]), rfl⟩
    · go_enter Try.func21, Try.ntmps21
      go_wp2
      go_ret
      exact ⟨ret_bool (by simp [*]), rfl⟩
  · go_enter Try.func21, Try.ntmps21
    go_wp2
    go_ret
    exact ⟨ret_bool (by simp; omega), rfl⟩
theorem l1In_c (n a b : Int) (w : World) :
    Calls Try.prog 19 #[.int .i64 n, .int .i64 a, .int .i64 b] w fun e w' => e = .returned (.bool (Pl.isIn n a b)) ∧ w = w' := by
  unfold Pl.isIn
  by_cases h1 : a ≤ n
  · by_cases h2 : n ≤ b
    · go_enter Try.func19, Try.ntmps19
      go_wp2
      go_ret
      exact ⟨ret_bool (by simp [*]), rfl⟩
    · go_enter Try.func19, Try.ntmps19
      go_wp2
      go_ret
      exact ⟨ret_bool (by simp [*]), rfl⟩
  · go_enter Try.func19, Try.ntmps19
    go_wp2
    go_ret
    exact ⟨ret_bool (by simp; omega), rfl⟩
set_option maxRecDepth 100000 in
set_option maxHeartbeats 1000000 in
theorem isWord_c (s : ByteArray) (d : Bool) (w : World) (hs : s.size ≤ maxLen) :
    Calls Try.prog 49 #[.string s, .bool d] w fun e w' => e = .returned (.bool (Pl.word d s.data.toList)) ∧ w = w' := by
  unfold maxLen at hs
  go_enter Try.func49, Try.ntmps49
  go_wp2
  go_loop [5, 8] (fun _ i => ∃ k : Nat, k ≤ s.size ∧ i = .int .i64 k ∧ ∀ c ∈ s.data.toList.take k, Pl.wbyte d c = true) (fun _ i => s.size - (intOf i).toNat)
  case atStart => exact ⟨0, Nat.zero_le _, rfl, by simp⟩
  case round =>
    obtain ⟨k, hk, rfl, hall⟩ := hrel
    by_cases hlt : k < s.size
    · have hts : s.data.toList.take (k + 1) = s.data.toList.take k ++ [s[k]] := Pl.take_snoc s.data.toList k hlt
      have HS : Hid (s.data.toList.take (k + 1) = s.data.toList.take k ++ [s[k]]) := hts
      have HA : Hid (∀ c ∈ s.data.toList.take k, Pl.wbyte d c = true) := hall
      clear hts hall
      have hb : (s[k].toNat : Int) < 256 := by have := s[k].toNat_lt; omega
      cases d
      all_goals go_wp2
      all_goals first
        | (go_ret; exact ⟨ret_bool (Pl.word_bad hlt (Pl.wb_no (by omega) (.inl rfl))).symm, rfl⟩)
        | (go_ret; exact ⟨ret_bool (Pl.word_bad hlt (Pl.wb_no (by omega) (.inr (by omega)))).symm, rfl⟩)
        | (go_round
           case rel => exact ⟨k + 1, by omega, by go_num, Pl.all_snoc HS.out HA.out (by first | exact Pl.wb_letter (by omega) | exact Pl.wb_digit (by omega))⟩
           case measure => simp [intOf]; omega)
    · have HA : Hid (∀ c ∈ s.data.toList.take k, Pl.wbyte d c = true) := hall
      clear hall
      go_wp2_with (go_at_call 21; refine (within_c _ _ _ _).mono ?_; rintro e w' ⟨rfl, rfl⟩)
      go_ret
      exact ⟨ret_bool (by rw [Pl.word_end (by simp; omega) HA.out]; simp), rfl⟩
set_option maxRecDepth 100000 in
set_option maxHeartbeats 1000000 in
theorem l3Name_c (s : ByteArray) (d : Bool) (w : World) (hs : s.size ≤ maxLen) :
    Calls Try.prog 46 #[.string s, .bool d] w fun e w' => e = .returned (.bool (Pl.word d s.data.toList)) ∧ w = w' := by
  unfold maxLen at hs
  go_enter Try.func46, Try.ntmps46
  go_wp2
  go_loop [5] (fun i => ∃ k : Nat, k ≤ s.size ∧ i = .int .i64 k ∧ ∀ c ∈ s.data.toList.take k, Pl.wbyte d c = true) (fun i => s.size - (intOf i).toNat)
  case atStart => exact ⟨0, Nat.zero_le _, rfl, by simp⟩
  case round =>
    obtain ⟨k, hk, rfl, hall⟩ := hrel
    by_cases hlt : k < s.size
    · have hts : s.data.toList.take (k + 1) = s.data.toList.take k ++ [s[k]] := Pl.take_snoc s.data.toList k hlt
      have HS : Hid (s.data.toList.take (k + 1) = s.data.toList.take k ++ [s[k]]) := hts
      have HA : Hid (∀ c ∈ s.data.toList.take k, Pl.wbyte d c = true) := hall
      clear hts hall
      have hb : (s[k].toNat : Int) < 256 := by have := s[k].toNat_lt; omega
      cases d
      all_goals go_wp2
      all_goals (try simp only [Bool.not_eq_true', Bool.not_eq_false', decide_eq_true_eq, decide_eq_false_iff_not] at *)
      all_goals first
        | (exfalso; omega)
        | (go_ret; exact ⟨ret_bool (Pl.word_bad hlt (Pl.wb_no (by omega) (.inl rfl))).symm, rfl⟩)
        | (go_ret; exact ⟨ret_bool (Pl.word_bad hlt (Pl.wb_no (by omega) (.inr (by omega)))).symm, rfl⟩)
        | (go_round
           case rel => exact ⟨k + 1, by omega, by go_num, Pl.all_snoc HS.out HA.out (by first | exact Pl.wb_letter (by omega) | exact Pl.wb_digit (by omega))⟩
           case measure => simp [intOf]; omega)
    · have HA : Hid (∀ c ∈ s.data.toList.take k, Pl.wbyte d c = true) := hall
      clear hall
      go_wp2_with (go_at_call 19; refine (l1In_c _ _ _ _).mono ?_; rintro e w' ⟨rfl, rfl⟩)
      go_ret
      exact ⟨ret_bool (by rw [Pl.word_end (by simp; omega) HA.out]; simp), rfl⟩
end Go.Proofs.Ytkodfflnpalbbaa

/-
  Contracts: slices.Insert with one element, at impl.Row. No conditions beyond those named.
-/
namespace Go.Proofs.Ytkodfflnpalbbaa
open Go.RowKit
theorem Mm.Chg.grownR {g : Nat} {w w' : World} (h : Mm.Chg [g] w w') : w.grownBy w' (some g) := ⟨h.os, h.tape, h.output, h.size, fun k hk hn => h.block k hk (fun hm => hn (by rw [List.mem_singleton.1 hm]))⟩
theorem Mm.Chg.grown0R {row : Option Nat} {w w' : World} (h : Below w.heap.size w w') : w.grownBy w' row := ⟨h.os, h.tape, h.output, h.size, fun k hk _ => h.block k hk⟩
theorem Mm.zeroCells_lenR (z : Array Value) (m : Nat) : (Builtin.zeroCells z m).size = m * z.size := by simp [Builtin.zeroCells]
theorem Try.infoRowI : (Try.prog.info? 83).map (fun i => (i.zero, i.size, i.bytes)) = some (some (.agg #[.string ByteArray.empty, .slice none 0 0]), 2, 40) := by kernel_rfl
set_option maxRecDepth 100000 in
set_option maxHeartbeats 4000000 in
theorem insRow_c (cells ct : List Value) (n k vb : Nat) (A : Option Addr) (c : Nat) (w : World) (ho : w.ownsRow 0 83 2 (.slice A n c) n cells) (hk : k ≤ n) (hn : n ≤ 1000) (hct : ct.length = 2) (hvs : ∀ j u, ct[j]? = some u → w.cell? ⟨vb, j, none⟩ = some u) (h1 : ∀ u ∈ ct, u.oneCell' = true) (h1c : ∀ u ∈ cells, u.oneCell' = true)
    (hvb : ∀ g, A = some ⟨g, 0, none⟩ → vb ≠ g) (hsh : w.shape? vb = some (83, 2)) (hfz : ∀ j, w.frozen? ⟨vb, j, none⟩ = false) (hvw : vb < w.heap.size) :
    Calls Try.prog 62 #[.slice A n c, .int .i64 k, .slice (some ⟨vb, 0, none⟩) 1 1] w fun e w' => ∃ A' n' c', e = .returned (.slice A' n' c') ∧ w'.ownsRow 0 83 2 (.slice A' n' c') (n + 1) (cells.take (k * 2) ++ (ct ++ cells.drop (k * 2))) ∧ w.grownBy w' (Value.slice A n c).ownBlock ∧ ((Value.slice A' n' c').ownBlock = (Value.slice A n c).ownBlock ∨ (Value.slice A' n' c').ownBlock = some w.heap.size) := by
  obtain ⟨i0, hi, hz0, hzs, hzb⟩ := info_parts Try.infoRowI
  have hcl := ho.1
  by_cases hkn : k = n
  · subst hkn
    have e0 : cells.take (k * 2) ++ (ct ++ cells.drop (k * 2)) = cells ++ ct := by rw [List.take_of_length_le (by omega), List.drop_of_length_le (by omega), List.append_nil]
    have E0 := Lib.hid e0
    clear e0 hcl
    have HO := Lib.hid ho
    rcases ho.2 with ⟨hv, hn0⟩ | ⟨g, cap, cur, hv, _, hg, hnc, hcm, hcs, htake⟩
    · injection hv with e1 e2 e3
      subst e1 e3
      subst hn0
      clear ho
      go_enter Try.func62, Try.ntmps62
      go_wp2_with (at_builtin; refine wpList_append_lies _ (by rfl) _ _ _ (by rfl) 0 83 i0 _ 2 40 Try.underlying33 hi hz0 hzs hzb rfl (by omega) _ 0 cells (by rfl) HO.out ⟨vb, 0, none⟩ 1 1 ct (by rfl) (by omega) (fun j u hj => by rw [Mm.add0]; exact hvs j u hj) h1 (by omega) (by unfold maxLen; omega) (by omega) (Nat.zero_le _) _ rfl ?_; intro gg cap w3 hown hgrow hat hlt)
      go_ret
      exact ⟨_, _, _, rfl, E0.out ▸ hown, hgrow, hat.elim (fun h => .inl (by rw [h]; rfl)) (fun h => .inr (by rw [h]; rfl))⟩
    · injection hv with e1 e2 e3
      subst e1 e3
      clear ho
      unfold maxLen at hcm
      by_cases hcn : c = k
      · subst hcn
        go_enter Try.func62, Try.ntmps62
        go_wp2_with (at_builtin; refine wpList_append_lies _ (by rfl) _ _ _ (by rfl) 0 83 i0 _ 2 40 Try.underlying33 hi hz0 hzs hzb rfl (by omega) _ c cells (by rfl) HO.out ⟨vb, 0, none⟩ 1 1 ct (by rfl) (by omega) (fun j u hj => by rw [Mm.add0]; exact hvs j u hj) h1 (by omega) (by unfold maxLen; omega) (by omega) (Nat.zero_le _) _ rfl ?_; intro gg cap w3 hown hgrow hat hlt)
        go_ret
        exact ⟨_, _, _, rfl, E0.out ▸ hown, hgrow, hat.elim (fun h => .inl (by rw [h]; rfl)) (fun h => .inr (by rw [h]; rfl))⟩
      · go_enter Try.func62, Try.ntmps62
        go_wp2_with (at_builtin; refine wpList_append_lies _ (by rfl) _ _ _ (by rfl) 0 83 i0 _ 2 40 Try.underlying33 hi hz0 hzs hzb rfl (by omega) _ k cells (by rfl) HO.out ⟨vb, 0, none⟩ 1 1 ct (by rfl) (by omega) (fun j u hj => by rw [Mm.add0]; exact hvs j u hj) h1 (by omega) (by unfold maxLen; omega) (by omega) (Nat.zero_le _) _ rfl ?_; intro gg cap w3 hown hgrow hat hlt)
        go_ret
        exact ⟨_, _, _, rfl, E0.out ▸ hown, hgrow, hat.elim (fun h => .inl (by rw [h]; rfl)) (fun h => .inr (by rw [h]; rfl))⟩
  · have hkl : k < n := by omega
    rcases ho.2 with ⟨hv, hn0⟩ | ⟨g, cap, cur, hv, _, hg, hnc, hcm, hcs, htake⟩
    · omega
    injection hv with e1 e2 e3
    subst e1 e3
    have hBg : Mm.Blk w g 83 cur.toList := by unfold Mm.Blk; rw [Array.toArray_toList]; exact hg
    have hcsl : cur.toList.length = c * 2 := by simpa using hcs
    have hne := hvb g rfl
    have hcc : ∀ j u, cells[j]? = some u → w.cell? ⟨g, j, none⟩ = some u := fun j u hj => hBg.cell (by
      have : (cur.toList.take (n * 2))[j]? = some u := by rw [htake]; exact hj
      rw [List.getElem?_take] at this
      split at this
      · exact this
      · cases this)
    have hsp : ∀ j, j < c * 2 → (w.cell? ⟨g, j, none⟩).isSome = true := fun j hj => by
      rw [hBg.cell (List.getElem?_eq_getElem (by rw [hcsl]; exact hj))]; rfl
    have hfz2 : ∀ j, w.frozen? ⟨g, j, none⟩ = false := fun j => hBg.frozen _
    have hdl : (cells.drop (k * 2)).length = (n - k) * 2 := by rw [List.length_drop, hcl]; omega
    unfold maxLen at hcm
    have hw1 : IntKind.i64.wrap ((k : Int) + 1) = (k : Int) + 1 := IntWalk.i64_in _ (by omega)
    have hw2 : IntKind.i64.wrap ((n : Int) + 1) = (n : Int) + 1 := IntWalk.i64_in _ (by omega)
    have hz2 : ¬ ((k : Int) = (n : Int)) := by omega
    have hb1 : (0 : Int) ≤ (k : Int) + 1 := by omega
    have hb5 : ((k : Int) + 1).toNat = k + 1 := by omega
    have hb6 : ((n : Int) + 1).toNat = n + 1 := by omega
    by_cases hroom : n + 1 ≤ c
    · have hb2 : ¬ (c = k + 1) := by omega
      have hb4 : ¬ (c = k) := by omega
      have hb3 : (k : Int) ≤ (n : Int) + 1 := by omega
      have hov : ∀ o lb cb, (callFunc 68 #[.slice (some ⟨vb, 0, none⟩) 1 1, .slice (some ⟨g, o, none⟩) lb cb]).run Try.prog w = .ok (.value (.bool false)) w := fun o lb cb => by
        rw [run_callFunc_extern Try.func68 (by kernel_rfl) (by kernel_rfl) (by kernel_rfl) (e := Extern.SlicesOverlaps.overlaps #[33, 33] #[4]) (by kernel_rfl),
          Lib.run_overlaps_apart w 33 4 83 Try.underlying33 2 Try.sizeOf83 ⟨vb, 0, none⟩ ⟨g, o, none⟩ 1 1 lb cb hne _ _ _ _ hsh (Mm.shape_blk hBg) (by omega) (hfz _) (hfz _)]
        rfl
      have HBG := Lib.hid hBg
      clear ho hg hBg
      go_enter Try.func62, Try.ntmps62
      go_wp2_with (simp only [hov])
      have hsz : (Try.prog.info? 83).map (·.size) = some 2 := by rw [hi]; exact congrArg some hzs
      have hmin : Nat.min (n + 1 - k) (n - k) = n - k := by simp only [Nat.min_def]; split <;> omega
      have hmin2 : Nat.min 1 (n + 1 - k) = 1 := by simp only [Nat.min_def]; split <;> omega
      have hcp1 : ∀ ty dc sc, (Builtin.copy_ #[33, 33] ty #[.slice (some ⟨g, (k + 1) * 2, none⟩) (n - k) dc, .slice (some ⟨g, k * 2, none⟩) (n + 1 - k) sc]).run Try.prog w.drew = .ok (goInt (Nat.min (n + 1 - k) (n - k))) (w.drew.setCells g ((k + 1) * 2) (cells.drop (k * 2))) := fun ty dc sc =>
        Mm.run_copy_k w.drew _ _ ty 83 2 g ((k + 1) * 2) (n - k) dc ⟨g, k * 2, none⟩ (n + 1 - k) sc (cells.drop (k * 2)) Try.underlying33 hsz (by rw [hdl, hmin])
          (fun j v hj => by rw [Addr.add_lit]; exact hcc _ v (by rwa [List.getElem?_drop] at hj))
          (fun j hj => hsp _ (by rw [hdl] at hj; omega)) (fun j hj => hfz2 _) (fun v hv => h1c v (List.mem_of_mem_drop hv))
      obtain ⟨W1, hW1⟩ : ∃ W1, W1 = w.drew.setCells g ((k + 1) * 2) (cells.drop (k * 2)) := ⟨_, rfl⟩
      have hsp1 : ∀ j, j < c * 2 → (W1.cell? ⟨g, j, none⟩).isSome = true := fun j hj => by
        rw [hW1]
        exact isSome_setCells g (cells.drop (k * 2)) ((k + 1) * 2) w.drew (fun j hj => hsp ((k + 1) * 2 + j) (by rw [hdl] at hj; omega)) _ (hsp j hj)
      have hcp2 : ∀ (W : World), (∀ x, W.cell? x = W1.cell? x) → (∀ x, W.frozen? x = W1.frozen? x) → ∀ ty dc, (Builtin.copy_ #[33, 33] ty #[.slice (some ⟨g, k * 2, none⟩) (n + 1 - k) dc, .slice (some ⟨vb, 0, none⟩) 1 1]).run Try.prog W = .ok (goInt (Nat.min 1 (n + 1 - k))) (W.setCells g (k * 2) ct) := fun W hWc hWf ty dc =>
        Mm.run_copy_k (P := Try.prog) W 33 33 ty 83 2 g (k * 2) (n + 1 - k) dc ⟨vb, 0, none⟩ 1 1 ct Try.underlying33 hsz (by rw [hct, hmin2])
          (fun j v hj => by
            rw [Mm.add0, hWc, hW1, World.cell?_setCells_out g _ _ _ _ (fun h _ => absurd h hne)]
            exact hvs j v hj)
          (fun j hj => by rw [hWc]; exact hsp1 _ (by omega)) (fun j hj => by rw [hWf, hW1, World.frozen?_setCells]; exact hfz2 _) h1
      rw [← hW1] at hcp1
      have HW1 := Lib.hid hW1
      clear hW1
      go_region_law (refine step_copy_runI rfl _ _ 33 33 rfl (.slice (some ⟨g, (k + 1) * 2, none⟩) (n - k) (c - (k + 1))) (.slice (some ⟨g, k * 2, none⟩) (n + 1 - k) (c - k)) (by simp [Act.eval, Act.put]) (by simp [Act.eval, Act.put]) (hcp1 _ _ _) ?_)
      go_wp2_with (at_builtin; refine wpList_copy_runI _ rfl _ _ 33 33 rfl _ _ rfl rfl (hcp2 _ (fun _ => rfl) (fun _ => rfl) _ _) ?_)
      go_ret
      have hW1 := HW1.out
      subst hW1
      have hd : Mm.Blk w.drew g 83 cur.toList := HBG.out
      have hb2 := Mm.setCells_blk ct _ (k * 2) _ (Mm.setCells_blk (cells.drop (k * 2)) _ ((k + 1) * 2) _ hd)
      refine ⟨_, _, _, rfl, ⟨?_, .inr ⟨g, c, _, rfl, Nat.zero_le _, hb2, hroom, by unfold maxLen; omega, ?_, ?_⟩⟩, ?_, .inl rfl⟩
      · rw [List.length_append, List.length_append, List.length_take, hdl, hct, hcl]; omega
      · rw [List.size_toArray, Mm.setList_len, Mm.setList_len]; exact hcsl
      · have := Mm.ins_rows (cur := cur.toList) (cells := cells) (ct := ct) (N := n * 2) (K := k * 2) (S := 2) htake hcl (by omega) hct (by rw [hcsl]; omega)
        rw [show (k + 1) * 2 = k * 2 + 2 by omega, show (n + 1) * 2 = n * 2 + 2 by omega]
        rw [List.append_assoc] at this
        exact this
      · exact Mm.Chg.grownR ((Mm.Chg.of_below (Below.refl w.heap.size w).drew).trans ((Mm.setCells_chg g _ _ _).trans (Mm.setCells_chg g _ _ _)))
    · have hcn : c = n := by omega
      subst hcn
      have hsz : (Try.prog.info? 83).map (·.size) = some 2 := by rw [hi]; exact congrArg some hzs
      have hw3 : IntKind.i64.wrap ((c : Int) + 1 - (k : Int)) = (c : Int) + 1 - (k : Int) := IntWalk.i64_in _ (by omega)
      have hold : (Builtin.firstCells i0.size k (.slice (some ⟨g, 0, none⟩) k c)).run Try.prog w.drew = .ok (cells.take (k * 2)).toArray w.drew := by
        rw [hzs]
        exact run_firstCells_some w.drew 2 k ⟨g, 0, none⟩ k c (cells.take (k * 2)) (by rw [List.length_take, hcl]; omega) (fun j v hj => by
          rw [List.getElem?_take] at hj
          split at hj
          · rw [Mm.add0]; exact hcc j v hj
          · cases hj)
      have hik : ((c + 1 - k : Nat) : Int) = (c : Int) + 1 - (k : Int) := by omega
      have hkk : k + (c + 1 - k) = c + 1 := by omega
      obtain ⟨G, hG⟩ : ∃ G, G = grownCap w (c + 1) c 83 := ⟨_, rfl⟩
      obtain ⟨ROW, hROW⟩ : ∃ ROW : Array Value, ROW = (cells.take (k * 2)).toArray ++ Builtin.zeroCells (Value.agg #[.string ByteArray.empty, .slice none 0 0]).cells (c + 1 - k) ++ Builtin.zeroCells (Value.agg #[.string ByteArray.empty, .slice none 0 0]).cells (G - (c + 1)) := ⟨_, rfl⟩
      have hrz : ∀ ty, (Builtin.append_ #[33, 3] ty #[.slice (some ⟨g, 0, none⟩) k c, .int .i64 ((c : Int) + 1 - (k : Int))]).run Try.prog w = .ok (.slice (some ⟨w.heap.size, 0, none⟩) (c + 1) G) (w.drew.alloc (.cells ROW 83)) := fun ty => by
        have h := Lib.run_append_grow_zeros w 33 3 ty 83 i0 _ .i64 .i64 Try.underlying33 Try.underlying3 hi hz0 (some ⟨g, 0, none⟩) k c (cells.take (k * 2)) hold (c + 1 - k) (by omega) (by omega) (by omega) (by omega) (by rw [hzb]; omega) (by rw [hzb, hkk]; exact growslice_fits (by omega) (by omega))
        rw [hik, hkk] at h
        rw [hG, hROW, hG]
        exact h
      have hGn : c + 1 ≤ G := by rw [hG]; exact grownCap_ge w _ _ _
      have hGm : G ≤ maxLen := by rw [hG]; exact grownCap_le_maxLen w (c + 1) c 83 (by unfold maxLen; omega)
      have hRs : ROW.size = G * 2 := by
        rw [hROW]
        simp only [Array.size_append, List.size_toArray, Mm.zeroCells_lenR, List.length_take, hcl]
        show min (k * 2) (c * 2) + (c + 1 - k) * 2 + (G - (c + 1)) * 2 = _
        omega
      have hRt : ROW.toList.take (k * 2) = cells.take (k * 2) := by
        rw [hROW, Array.append_assoc, Array.toList_append, List.take_left' (by rw [List.length_take, hcl]; omega)]
      clear hG hROW hik hkk hold
      unfold maxLen at hGm
      obtain ⟨W1, hW1⟩ : ∃ W1, W1 = w.drew.alloc (.cells ROW 83) := ⟨_, rfl⟩
      have hgw : g < w.heap.size := hBg.lt
      have hB1 : Mm.Blk W1 w.heap.size 83 ROW.toList := by
        have := Mm.Blk.new w.drew 83 ROW.toList
        rw [Array.toArray_toList] at this
        rw [hW1]
        exact this
      have hN : ∀ j, j < G * 2 → (W1.cell? ⟨w.heap.size, j, none⟩).isSome = true := fun j hj => by
        rw [hB1.cell (List.getElem?_eq_getElem (by rw [Array.length_toList, hRs]; exact hj))]; rfl
      have hNf : ∀ j, W1.frozen? ⟨w.heap.size, j, none⟩ = false := fun j => hB1.frozen _
      have hbl : Below w.heap.size w W1 := by rw [hW1]; exact (Below.refl _ _).drew.alloc (by exact Nat.le_refl _) _
      have hOc : ∀ b j v, b < w.heap.size → w.cell? ⟨b, j, none⟩ = some v → W1.cell? ⟨b, j, none⟩ = some v := fun b j v hb h => (hbl.cell hb).trans h
      have hmin1 : Nat.min 1 (c + 1 - k) = 1 := by simp only [Nat.min_def]; split <;> omega
      have hmin2 : Nat.min (c - k) (c - k) = c - k := Nat.min_self _
      have hcpA : ∀ (W : World), (∀ x, W.cell? x = W1.cell? x) → (∀ x, W.frozen? x = W1.frozen? x) → ∀ ty dc, (Builtin.copy_ #[33, 33] ty #[.slice (some ⟨w.heap.size, k * 2, none⟩) (c + 1 - k) dc, .slice (some ⟨vb, 0, none⟩) 1 1]).run Try.prog W = .ok (goInt (Nat.min 1 (c + 1 - k))) (W.setCells w.heap.size (k * 2) ct) := fun W hWc hWf ty dc =>
        Mm.run_copy_k (P := Try.prog) W 33 33 ty 83 2 w.heap.size (k * 2) (c + 1 - k) dc ⟨vb, 0, none⟩ 1 1 ct Try.underlying33 hsz (by rw [hct, hmin1])
          (fun j v hj => by rw [Mm.add0, hWc]; exact hOc _ _ v hvw (hvs j v hj))
          (fun j hj => by rw [hWc]; exact hN _ (by omega)) (fun j hj => by rw [hWf]; exact hNf _) h1
      have hcpB : ∀ (W : World), (∀ x, W.cell? x = (W1.setCells w.heap.size (k * 2) ct).cell? x) → (∀ x, W.frozen? x = (W1.setCells w.heap.size (k * 2) ct).frozen? x) → ∀ ty dc sc, (Builtin.copy_ #[33, 33] ty #[.slice (some ⟨w.heap.size, (k + 1) * 2, none⟩) (c - k) dc, .slice (some ⟨g, k * 2, none⟩) (c - k) sc]).run Try.prog W = .ok (goInt (Nat.min (c - k) (c - k))) (W.setCells w.heap.size ((k + 1) * 2) (cells.drop (k * 2))) := fun W hWc hWf ty dc sc =>
        Mm.run_copy_k (P := Try.prog) W 33 33 ty 83 2 w.heap.size ((k + 1) * 2) (c - k) dc ⟨g, k * 2, none⟩ (c - k) sc (cells.drop (k * 2)) Try.underlying33 hsz (by rw [hdl, hmin2])
          (fun j v hj => by
            rw [Addr.add_lit, hWc, World.cell?_setCells_out _ _ _ _ _ (fun h _ => absurd h (Nat.ne_of_lt hgw))]
            exact hOc _ _ v hgw (hcc _ v (by rwa [List.getElem?_drop] at hj)))
          (fun j hj => by rw [hWc]; exact isSome_setCells _ _ _ _ (fun t ht => hN (k * 2 + t) (by omega)) _ (hN ((k + 1) * 2 + j) (by rw [hdl] at hj; omega)))
          (fun j hj => by rw [hWf, World.frozen?_setCells]; exact hNf _) (fun v hv => h1c v (List.mem_of_mem_drop hv))
      have HW1 := Lib.hid (And.intro hW1 hB1)
      have HBL := Lib.hid hbl
      subst hW1
      have hE1 : ∀ x, ((w.alloc (.cells ROW 83)).drew).cell? x = (w.drew.alloc (.cells ROW 83)).cell? x := fun x => rfl
      have hE2 : ∀ x, ((w.alloc (.cells ROW 83)).drew).frozen? x = (w.drew.alloc (.cells ROW 83)).frozen? x := fun x => rfl
      have hF1 : ∀ x, (((w.alloc (.cells ROW 83)).drew.setCells w.heap.size (k * 2) ct).drew).cell? x = ((w.drew.alloc (.cells ROW 83)).setCells w.heap.size (k * 2) ct).cell? x := fun x => rfl
      have hF2 : ∀ x, (((w.alloc (.cells ROW 83)).drew.setCells w.heap.size (k * 2) ct).drew).frozen? x = ((w.drew.alloc (.cells ROW 83)).setCells w.heap.size (k * 2) ct).frozen? x := fun x => rfl
      have hGi : ¬ (G = k) := by omega
      have hGim : ¬ (G = k + 1) := by omega
      have hci : ¬ (c = k) := by omega
      clear ho hg hBg hbl hN hNf hOc
      go_enter Try.func62, Try.ntmps62
      go_wp2_with (first
        | (at_builtin; refine Lib.wpList_append_run _ rfl _ _ _ _ rfl _ _ rfl rfl _ _ (hrz _) ?_)
        | (at_builtin; refine wpList_copy_runI _ rfl _ _ 33 33 rfl _ _ rfl rfl (hcpA _ hE1 hE2 _ _) ?_))
      go_region_law (refine step_copy_runI rfl _ _ 33 33 rfl (.slice (some ⟨w.heap.size, (k + 1) * 2, none⟩) (c - k) (G - (k + 1))) (.slice (some ⟨g, k * 2, none⟩) (c - k) (c - k)) (by simp [Act.eval, Act.put]) (by simp [Act.eval, Act.put]) (hcpB _ hF1 hF2 3 (G - (k + 1)) (c - k)) ?_)
      go_wp2
      go_ret
      have hd : Mm.Blk (w.alloc (.cells ROW 83)).drew w.heap.size 83 ROW.toList := HW1.out.2
      have hb1' : Mm.Blk (((w.alloc (.cells ROW 83)).drew.setCells w.heap.size (k * 2) ct).drew) w.heap.size 83 (Mm.setList ROW.toList (k * 2) ct) := Mm.setCells_blk ct _ (k * 2) _ hd
      have hb2' := Mm.setCells_blk (cells.drop (k * 2)) _ ((k + 1) * 2) _ hb1'
      refine ⟨_, _, _, rfl, ⟨?_, .inr ⟨w.heap.size, G, _, rfl, Nat.zero_le _, hb2', hGn, by unfold maxLen; omega, ?_, ?_⟩⟩, ?_, .inr rfl⟩
      · rw [List.length_append, List.length_append, List.length_take, hdl, hct, hcl]; omega
      · rw [List.size_toArray, Mm.setList_len, Mm.setList_len, Array.length_toList]; exact hRs
      · have := Mm.ins_rows' (cur := ROW.toList) (cells := cells) (ct := ct) (N := c * 2) (K := k * 2) (S := 2) hRt hcl (by omega) hct (by rw [Array.length_toList, hRs]; omega)
        rw [show (k + 1) * 2 = k * 2 + 2 by omega, show (c + 1) * 2 = c * 2 + 2 by omega]
        rw [List.append_assoc] at this
        exact this
      · have q1 : Below w.heap.size w (w.alloc (.cells ROW 83)).drew := (below_new (Below.refl _ _) _).drew
        have q2 := Mm.Below.chg q1 (Mm.setCells_chg w.heap.size ct _ (k * 2)) q1.size (fun b hb => by rw [List.mem_singleton.1 hb]; exact Nat.le_refl _)
        have q3 := Mm.Below.chg q2.drew (Mm.setCells_chg w.heap.size (cells.drop (k * 2)) _ ((k + 1) * 2)) q2.drew.size (fun b hb => by rw [List.mem_singleton.1 hb]; exact Nat.le_refl _)
        exact Mm.Chg.grown0R q3
end Go.Proofs.Ytkodfflnpalbbaa
