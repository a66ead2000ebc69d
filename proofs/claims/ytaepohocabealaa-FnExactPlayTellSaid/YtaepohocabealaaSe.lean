/-
  What a call owns: a list of things in memory, no block twice, all of them new since the call began; how the list goes on when one of them is changed. No program in sight. No conditions.
-/
import Derived.Test.YtaepohocabealaaCl
namespace Go.Proofs.Ytaepohocabealaa
open Go.RowKit
namespace Mm
structure Thing where
  fp : List Nat
  holds : World → Prop
  keep : ∀ {w w' : World}, holds w → (∀ b, b ∈ fp → w'.heap[b]? = w.heap[b]?) → holds w'
  lt : ∀ {w : World}, holds w → ∀ b, b ∈ fp → b < w.heap.size
def tblk (g : Nat) (t : TypeId) (cs : List Value) : Thing := ⟨[g], fun w => Blk w g t cs, fun h k => h.keep (k g (by simp)), fun h b hb => by rw [List.mem_singleton.1 hb]; exact h.lt⟩
def tsl {α : Type} (E : Rep α) (e : TypeId) (xs : List α) (v : Value) (fp : List Nat) : Thing := ⟨fp, fun w => SlOwn E e w xs v fp, fun h k => h.okeep k, fun h => h.olt⟩
def tow {α : Type} (R : Rep α) (x : α) (cs : List Value) (fp : List Nat) : Thing := ⟨fp, fun w => R.own w x cs fp, fun h k => R.okeep h k, fun h => R.olt h⟩
def tnil : Thing := ⟨[], fun _ => True, fun _ _ => trivial, fun _ b hb => by cases hb⟩

structure Sep (w0 wr : World) (ts : List Thing) : Prop where
  bel : Below w0.heap.size w0 wr
  nd : (ts.flatMap (·.fp)).Nodup
  new : ∀ b, b ∈ ts.flatMap (·.fp) → w0.heap.size ≤ b
  hold : ∀ t, t ∈ ts → t.holds wr

theorem flat_split {β γ : Type} (f : β → List γ) {l : List β} {i : Nat} {x : β} (h : l[i]? = some x) (y : β) :
    l.flatMap f = (l.take i).flatMap f ++ (f x ++ (l.drop (i + 1)).flatMap f) ∧ (l.set i y).flatMap f = (l.take i).flatMap f ++ (f y ++ (l.drop (i + 1)).flatMap f) := by
  obtain ⟨hi, hx⟩ := List.getElem?_eq_some_iff.1 h
  subst hx
  constructor
  · conv => lhs; rw [show l = l.take i ++ l[i] :: l.drop (i + 1) by rw [← List.drop_eq_getElem_cons hi, List.take_append_drop]]
    rw [List.flatMap_append, List.flatMap_cons]
  · rw [List.set_eq_take_append_cons_drop, if_pos hi, List.flatMap_append, List.flatMap_cons]

section
variable {w0 wr W : World} {ts : List Thing} {t t' s : Thing} {i j : Nat}
theorem Sep.start (w : World) : Sep w w [] := ⟨Below.refl _ _, by simp, by simp, by simp⟩
theorem Sep.start' {w W : World} (h : Below w.heap.size w W) : Sep w W [] := ⟨h, by simp, by simp, by simp⟩
theorem Sep.at_ (h : Sep w0 wr ts) (i : Nat) (hi : ts[i]? = some t) : t.holds wr := h.hold t (List.mem_of_getElem? hi)
theorem Sep.mem (hi : ts[i]? = some t) {b : Nat} (hb : b ∈ t.fp) : b ∈ ts.flatMap (·.fp) := List.mem_flatMap.2 ⟨t, List.mem_of_getElem? hi, hb⟩
theorem Sep.lt (h : Sep w0 wr ts) : ∀ b, b ∈ ts.flatMap (·.fp) → b < wr.heap.size := fun b hb => by
  obtain ⟨t, ht, hb⟩ := List.mem_flatMap.1 hb
  exact t.lt (h.hold t ht) b hb
theorem Sep.ndat (h : Sep w0 wr ts) (hi : ts[i]? = some t) : t.fp.Nodup := by
  have := h.nd
  rw [(flat_split (·.fp) hi t).1] at this
  exact ((List.nodup_append.1 this).2.1 |> List.nodup_append.1).1
theorem Sep.apart (h : Sep w0 wr ts) (hi : ts[i]? = some t) (hj : ts[j]? = some s) (hij : i ≠ j) : ∀ b, b ∈ t.fp → b ∉ s.fp := by
  have hnd := h.nd
  rw [(flat_split (·.fp) hi t).1, List.nodup_append, List.nodup_append] at hnd
  intro b hb hs
  rcases Nat.lt_or_gt_of_ne hij with h1 | h1
  · refine hnd.2.1.2.2 b hb b (List.mem_flatMap.2 ⟨s, List.mem_of_getElem? (i := j - (i + 1)) ?_, hs⟩) rfl
    rw [List.getElem?_drop, show i + 1 + (j - (i + 1)) = j by omega]; exact hj
  · refine hnd.2.2 b (List.mem_flatMap.2 ⟨s, List.mem_of_getElem? (i := j) ?_, hs⟩) b (List.mem_append_left _ hb) rfl
    rw [List.getElem?_take, if_pos h1]; exact hj
theorem Sep.step (h : Sep w0 wr ts) (hb : Below wr.heap.size wr W) : Sep w0 W ts :=
  ⟨below_step h.bel hb, h.nd, h.new, fun t ht => t.keep (h.hold t ht) fun b hb' => hb.block b (h.lt b (List.mem_flatMap.2 ⟨t, ht, hb'⟩))⟩
theorem Sep.add (h : Sep w0 wr ts) (hb : Below wr.heap.size wr W) (ht : t.holds W) (hnd : t.fp.Nodup) (hnew : ∀ b, b ∈ t.fp → wr.heap.size ≤ b) : Sep w0 W (t :: ts) := by
  have h1 := h.step hb
  refine ⟨h1.bel, ?_, fun b hb' => ?_, fun u hu => ?_⟩
  · rw [List.flatMap_cons, List.nodup_append]
    exact ⟨hnd, h.nd, fun a ha b hb' e => by subst e; have := hnew a ha; have := h.lt a hb'; omega⟩
  · rw [List.flatMap_cons] at hb'
    rcases List.mem_append.1 hb' with hb' | hb'
    · have := hnew b hb'; have := h.bel.size; omega
    · exact h.new b hb'
  · rcases List.mem_cons.1 hu with rfl | hu
    · exact ht
    · exact h1.hold u hu
theorem Sep.alloc (h : Sep w0 wr ts) (t : TypeId) (cs : List Value) : Sep w0 (wr.alloc (.cells cs.toArray t)) (tblk wr.heap.size t cs :: ts) :=
  h.add (below_new (Below.refl _ _) _) (Blk.new wr t cs) (by simp [tblk]) (by simp [tblk])
theorem Sep.alloc' {g : Nat} (h : Sep w0 wr ts) (hg : wr.heap.size = g) (t : TypeId) (cs : List Value) : Sep w0 (wr.alloc (.cells cs.toArray t)) (tblk g t cs :: ts) := by subst hg; exact h.alloc t cs
/-- thing number i has been changed, and nothing else that was there -/
theorem Sep.upd (h : Sep w0 wr ts) (hi : ts[i]? = some t) (hc : Chg t.fp wr W) (ht : t'.holds W) (hnd : t'.fp.Nodup) (hsub : ∀ b, b ∈ t'.fp → b ∈ t.fp ∨ wr.heap.size ≤ b) : Sep w0 W (ts.set i t') := by
  have hs := flat_split (·.fp) hi t'
  have hN := h.nd
  rw [hs.1, List.nodup_append, List.nodup_append] at hN
  have hL := h.lt
  rw [hs.1] at hL
  refine ⟨Below.chg h.bel hc h.bel.size (fun x hx => h.new x (Sep.mem hi hx)), ?_, ?_, ?_⟩
  · rw [hs.2, List.nodup_append, List.nodup_append]
    refine ⟨hN.1, ⟨hnd, hN.2.1.2.1, fun a ha b hb e => ?_⟩, fun a ha b hb e => ?_⟩
    · subst e
      rcases hsub a ha with h1 | h1
      · exact hN.2.1.2.2 a h1 a hb rfl
      · have := hL a (List.mem_append_right _ (List.mem_append_right _ hb)); omega
    · subst e
      rcases List.mem_append.1 hb with hb | hb
      · rcases hsub a hb with h1 | h1
        · exact hN.2.2 a ha a (List.mem_append_left _ h1) rfl
        · have := hL a (List.mem_append_left _ ha); omega
      · exact hN.2.2 a ha a (List.mem_append_right _ hb) rfl
  · intro b hb
    obtain ⟨u, hu, hb2⟩ := List.mem_flatMap.1 hb
    rcases List.mem_or_eq_of_mem_set hu with h1 | h1
    · exact h.new b (List.mem_flatMap.2 ⟨u, h1, hb2⟩)
    · rw [h1] at hb2
      rcases hsub b hb2 with h1 | h1
      · exact h.new b (Sep.mem hi h1)
      · have := h.bel.size; omega
  · intro u hu
    obtain ⟨k, hk⟩ := List.mem_iff_getElem?.1 hu
    by_cases hik : i = k
    · subst hik
      rw [List.getElem?_set_self (List.getElem?_eq_some_iff.1 hi).1] at hk
      injection hk with hk
      subst hk
      exact ht
    · rw [List.getElem?_set_ne hik] at hk
      have hu' := h.hold u (List.mem_of_getElem? hk)
      exact u.keep hu' fun b hb => hc.block b (u.lt hu' b hb) (fun hm => h.apart hi hk hik b hm hb)
/-- things i and j have been changed into one -/
theorem Sep.upd2 (h : Sep w0 wr ts) (hij : i ≠ j) (hi : ts[i]? = some t) (hj : ts[j]? = some s) (hc : Chg (t.fp ++ s.fp) wr W) (ht : t'.holds W) (hnd : t'.fp.Nodup) (hsub : ∀ b, b ∈ t'.fp → b ∈ t.fp ∨ b ∈ s.fp ∨ wr.heap.size ≤ b) :
    Sep w0 W ((ts.set j tnil).set i t') := by
  -- first the two are one thing, at i
  have hji : (ts.set j tnil)[i]? = some t := by rw [List.getElem?_set_ne (Ne.symm hij)]; exact hi
  have h1 : Sep w0 wr ((ts.set j tnil).set i ⟨t.fp ++ s.fp, fun w => t.holds w ∧ s.holds w, fun hh k => ⟨t.keep hh.1 fun b hb => k b (List.mem_append_left _ hb), s.keep hh.2 fun b hb => k b (List.mem_append_right _ hb)⟩,
      fun hh b hb => (List.mem_append.1 hb).elim (t.lt hh.1 b) (s.lt hh.2 b)⟩) := by
    have h2 : Sep w0 wr (ts.set j tnil) := h.upd hj (Chg.refl _ _) trivial (by simp [tnil]) (fun b hb => by cases hb)
    have ha := h.apart hi hj hij
    have hns := h.ndat hj
    have hs := flat_split (·.fp) hji ⟨t.fp ++ s.fp, fun w => t.holds w ∧ s.holds w, fun hh k => ⟨t.keep hh.1 fun b hb => k b (List.mem_append_left _ hb), s.keep hh.2 fun b hb => k b (List.mem_append_right _ hb)⟩,
      fun hh b hb => (List.mem_append.1 hb).elim (t.lt hh.1 b) (s.lt hh.2 b)⟩
    have hN := h2.nd
    rw [hs.1, List.nodup_append, List.nodup_append] at hN
    have hap : ∀ b, b ∈ s.fp → b ∉ (ts.set j tnil).flatMap (·.fp) := fun b hb hm => by
      obtain ⟨u, hu, hb'⟩ := List.mem_flatMap.1 hm
      obtain ⟨k, hk⟩ := List.mem_iff_getElem?.1 hu
      by_cases hjk : j = k
      · subst hjk
        rw [List.getElem?_set_self (List.getElem?_eq_some_iff.1 hj).1] at hk
        injection hk with hk
        subst hk
        cases hb'
      · rw [List.getElem?_set_ne hjk] at hk
        exact h.apart hj hk hjk b hb hb'
    rw [hs.1] at hap
    refine ⟨h2.bel, ?_, ?_, ?_⟩
    · rw [hs.2, List.nodup_append, List.nodup_append]
      refine ⟨hN.1, ⟨?_, hN.2.1.2.1, fun a ha' b hb e => ?_⟩, fun a ha' b hb e => ?_⟩
      · show (t.fp ++ s.fp).Nodup
        rw [List.nodup_append]
        exact ⟨hN.2.1.1, hns, fun a h3 b h4 e => by subst e; exact ha a h3 h4⟩
      · subst e
        rcases List.mem_append.1 ha' with h3 | h3
        · exact hN.2.1.2.2 a h3 a hb rfl
        · exact hap a h3 (List.mem_append_right _ (List.mem_append_right _ hb))
      · subst e
        rcases List.mem_append.1 hb with hb | hb
        · rcases List.mem_append.1 hb with h3 | h3
          · exact hN.2.2 a ha' a (List.mem_append_left _ h3) rfl
          · exact hap a h3 (List.mem_append_left _ ha')
        · exact hN.2.2 a ha' a (List.mem_append_right _ hb) rfl
    · intro b hb
      rw [hs.2] at hb
      rcases List.mem_append.1 hb with hb | hb
      · exact h2.new b (by rw [hs.1]; exact List.mem_append_left _ hb)
      · rcases List.mem_append.1 hb with hb | hb
        · rcases List.mem_append.1 hb with h3 | h3
          · exact h.new b (Sep.mem hi h3)
          · exact h.new b (Sep.mem hj h3)
        · exact h2.new b (by rw [hs.1]; exact List.mem_append_right _ (List.mem_append_right _ hb))
    · intro u hu
      rcases List.mem_or_eq_of_mem_set hu with h3 | rfl
      · exact h2.hold u h3
      · exact ⟨h.at_ i hi, h.at_ j hj⟩
  have hlt : i < (ts.set j tnil).length := (List.getElem?_eq_some_iff.1 hji).1
  have h3 := h1.upd (i := i) (List.getElem?_set_self hlt) hc ht hnd (fun b hb => by
    rcases hsub b hb with h | h | h
    · exact .inl (List.mem_append_left _ h)
    · exact .inl (List.mem_append_right _ h)
    · exact .inr h)
  rwa [List.set_set] at h3
end
section
variable {w0 wr W2 : World} {ts : List Thing} {s : Thing} {i j : Nat}
theorem Sep.setBlk {g k : Nat} {t : TypeId} {cs : List Value} (h : Sep w0 wr ts) (i : Nat) (hi : ts[i]? = some (tblk g t cs)) (u : Value) : Sep w0 (wr.setCell ⟨g, k, none⟩ u) (ts.set i (tblk g t (cs.set k u))) :=
  h.upd hi ((Chg.refl _ _).setCell (by simp [tblk]) u) ((show Blk wr g t cs from h.at_ i hi).set_ k u) (by simp [tblk]) (fun b hb => .inl hb)
variable {α : Type} {E : Rep α} {e : TypeId} {xs : List α} {v : Value} {fp : List Nat} {x : α} {cx : List Value}
theorem Sep.putSl {g n c k m : Nat} {x x' : α} {u : Value} (h : Sep w0 wr ts) (i : Nat) (hi : ts[i]? = some (tsl E e xs (.slice (some ⟨g, 0, none⟩) n c) fp)) (hk : xs[k]? = some x) (hm : m < E.size) (hx : ∀ cs fx, E.own wr x cs fx → E.own wr x' (cs.set m u) fx) :
    Sep w0 (wr.setCell ⟨g, k * E.size + m, none⟩ u) (ts.set i (tsl E e (xs.set k x') (.slice (some ⟨g, 0, none⟩) n c) fp)) := by
  have h1 : SlOwn E e wr xs (.slice (some ⟨g, 0, none⟩) n c) fp := h.at_ i hi
  have hnd : fp.Nodup := h.ndat hi
  exact h.upd hi ((Chg.refl _ _).setCell h1.mem_block u) (h1.store hnd hk hm hx) hnd (fun b hb => .inl hb)
theorem row_in {w : World} (h : SlOwn E e w xs v fp) {k : Nat} (hk : v.ownBlock = some k) : k ∈ fp := by
  obtain ⟨es, _, _, rfl⟩ := h
  exact List.mem_append_left _ (by rw [hk]; simp)
theorem Sep.put1 {g n c k : Nat} {x x' : α} {u : Value} (h : Sep w0 wr ts) (i : Nat) (hi : ts[i]? = some (tsl E e xs (.slice (some ⟨g, 0, none⟩) n c) fp)) (hE : E.size = 1) (hk : xs[k]? = some x) (hx : ∀ cs fx, E.own wr x cs fx → E.own wr x' [u] fx) :
    Sep w0 (wr.setCell ⟨g, k, none⟩ u) (ts.set i (tsl E e (xs.set k x') (.slice (some ⟨g, 0, none⟩) n c) fp)) := by
  have h1 := h.putSl (m := 0) (u := u) (x' := x') i hi hk (by omega) (fun cs fx ho => by
    have hl := E.olen ho
    rw [hE] at hl
    obtain ⟨a, rfl⟩ := List.length_eq_one_iff.1 hl
    exact hx _ _ ho)
  rwa [show k * E.size + 0 = k by rw [hE]; omega] at h1
theorem Sep.tail {t : Thing} (h : Sep w0 wr (t :: ts)) : Sep w0 wr ts := ⟨h.bel, by have := h.nd; rw [List.flatMap_cons, List.nodup_append] at this; exact this.2.1, fun b hb => h.new b (by rw [List.flatMap_cons]; exact List.mem_append_right _ hb), fun t ht => h.hold t (List.mem_cons_of_mem _ ht)⟩
theorem sl_addr {w : World} {A : Option Addr} {n c : Nat} (h : SlOwn E e w xs (.slice A n c) fp) (h0 : 0 < xs.length) : ∃ g, A = some ⟨g, 0, none⟩ ∧ g ∈ fp ∧ n = xs.length := by
  obtain ⟨A', n', c', hv, hn, _⟩ := h.form
  injection hv with h1 h2 h3
  have hm := fun g (hg : (Value.slice A n c).ownBlock = some g) => row_in h hg
  obtain ⟨es, he, ho, rfl⟩ := h
  obtain ⟨g, cap, hf, _⟩ := ho.form h0
  injection hf with hA
  subst hA
  exact ⟨g, rfl, hm g rfl, by omega⟩
theorem Sep.own0 (h : Sep w0 wr ts) (i : Nat) (hi : ts[i]? = some (tsl E e xs v fp)) : SlOwn E e wr xs v fp ∧ fp.Nodup ∧ (∀ b, b ∈ fp → w0.heap.size ≤ b) ∧ Below w0.heap.size w0 wr :=
  ⟨h.at_ i hi, h.ndat hi, fun b hb => h.new b (Sep.mem hi hb), h.bel⟩
/-- append, the new element a thing of the list -/
theorem Sep.push (h : Sep w0 wr ts) (i j : Nat) (hij : i ≠ j) (hi : ts[i]? = some (tsl E e xs v fp)) (hj : ts[j]? = some s) (hb : Below wr.heap.size wr W2) (hx : ∀ W, s.holds W → E.own W x cx s.fp) :
    ∃ l, W2.ownsRow 0 e E.size v xs.length l ∧ ∀ gg cap w1, w1.ownsRow 0 e E.size (.slice (some ⟨gg, 0, none⟩) (xs.length + 1) cap) (xs.length + 1) (l ++ cx) → W2.grownBy w1 v.ownBlock → (v.ownBlock = some gg ∨ gg = W2.heap.size) →
      ∃ fp', Sep w0 w1 ((ts.set j tnil).set i (tsl E e (xs ++ [x]) (.slice (some ⟨gg, 0, none⟩) (xs.length + 1) cap) fp')) := by
  have h2 := h.step hb
  have ho : SlOwn E e W2 xs v fp := h2.at_ i hi
  have hs := hx _ (h2.at_ j hj)
  obtain ⟨l, k1, k2⟩ := ho.push hs (h2.ndat hi) (h2.ndat hj) (fun b hb hm => h2.apart hi hj hij b hm hb)
  refine ⟨l, k1, fun gg cap w1 g1 g2 g3 => ?_⟩
  obtain ⟨fp', m1, m2, m3⟩ := k2 _ w1 g1 g2 (g3.elim (fun h => .inl h.symm) (fun h => .inr (by rw [h]; rfl)))
  refine ⟨fp', h2.upd2 hij hi hj ?_ m1 m2 (fun b hb => ?_)⟩
  · exact ⟨g2.os, g2.tape, g2.output, g2.size, fun k hk hn => g2.block k hk (fun hh => hn (List.mem_append_left _ (row_in ho hh.symm)))⟩
  · rcases m3 b hb with h | h | h
    · exact .inl h
    · exact .inr (.inl h)
    · exact .inr (.inr (by omega))
/-- append, the new element leads nowhere -/
theorem Sep.push0 (h : Sep w0 wr ts) (i : Nat) (hi : ts[i]? = some (tsl E e xs v fp)) (hb : Below wr.heap.size wr W2) (hx : E.own W2 x cx []) :
    ∃ l, W2.ownsRow 0 e E.size v xs.length l ∧ ∀ gg cap w1, w1.ownsRow 0 e E.size (.slice (some ⟨gg, 0, none⟩) (xs.length + 1) cap) (xs.length + 1) (l ++ cx) → W2.grownBy w1 v.ownBlock → (v.ownBlock = some gg ∨ gg = W2.heap.size) →
      ∃ fp', Sep w0 w1 (ts.set i (tsl E e (xs ++ [x]) (.slice (some ⟨gg, 0, none⟩) (xs.length + 1) cap) fp')) := by
  have h2 := h.step hb
  have ho : SlOwn E e W2 xs v fp := h2.at_ i hi
  obtain ⟨l, k1, k2⟩ := ho.push hx (h2.ndat hi) List.nodup_nil (fun b hb => by cases hb)
  refine ⟨l, k1, fun gg cap w1 g1 g2 g3 => ?_⟩
  obtain ⟨fp', m1, m2, m3⟩ := k2 _ w1 g1 g2 (g3.elim (fun h => .inl h.symm) (fun h => .inr (by rw [h]; rfl)))
  refine ⟨fp', h2.upd hi ?_ m1 m2 (fun b hb => ?_)⟩
  · exact ⟨g2.os, g2.tape, g2.output, g2.size, fun k hk hn => g2.block k hk (fun hh => hn (row_in ho hh.symm))⟩
  · rcases m3 b hb with h | h | h
    · exact .inl h
    · cases h
    · exact .inr (by omega)
/-- the inside of element k is changed -/
theorem Sep.putIn {g n c k : Nat} (h : Sep w0 wr ts) (i : Nat) (hi : ts[i]? = some (tsl E e xs (.slice (some ⟨g, 0, none⟩) n c) fp)) (hk : xs[k]? = some x) :
    ∃ cs fx, E.own wr x cs fx ∧ fx.Nodup ∧ (∀ b, b ∈ fx → b ∈ fp ∧ b ≠ g) ∧ (∀ j u, cs[j]? = some u → wr.cell? ⟨g, k * E.size + j, none⟩ = some u) ∧
      ∀ W x' fx', Chg fx wr W → E.own W x' cs fx' → fx'.Nodup → (∀ b, b ∈ fx' → b ∈ fx) → ∃ fp', Sep w0 W (ts.set i (tsl E e (xs.set k x') (.slice (some ⟨g, 0, none⟩) n c) fp')) := by
  have h1 : SlOwn E e wr xs (.slice (some ⟨g, 0, none⟩) n c) fp := h.at_ i hi
  obtain ⟨cs, fx, k1, k2, k3, k4, k5⟩ := h1.inner (h.ndat hi) hk
  refine ⟨cs, fx, k1, k2, k3, k4, fun W x' fx' m1 m2 m3 m4 => ?_⟩
  obtain ⟨fp', p1, p2, p3⟩ := k5 W x' fx' m1 m2 m3 m4
  exact ⟨fp', h.upd hi (m1.more fun b hb => (k3 b hb).1) p1 p2 (fun b hb => .inl (p3 b hb))⟩
theorem SlOwn.store1 {g n c k : Nat} {w : World} {x' : α} {u : Value} (h : SlOwn E e w xs (.slice (some ⟨g, 0, none⟩) n c) fp) (hnd : fp.Nodup) (hE : E.size = 1) (hk : xs[k]? = some x) (hx : ∀ cs fx, E.own w x cs fx → E.own w x' [u] fx) :
    SlOwn E e (w.setCell ⟨g, k, none⟩ u) (xs.set k x') (.slice (some ⟨g, 0, none⟩) n c) fp := by
  have h1 := h.store (j := 0) (u := u) (x' := x') hnd hk (by omega) (fun cs fx ho => by
    have hl := E.olen ho
    rw [hE] at hl
    obtain ⟨a, rfl⟩ := List.length_eq_one_iff.1 hl
    exact hx _ _ ho)
  rwa [show k * E.size + 0 = k by rw [hE]; omega] at h1
/-- what block i holds -/
theorem Sep.cell {g k : Nat} {t : TypeId} {cs : List Value} {u : Value} (h : Sep w0 wr ts) (i : Nat) (hi : ts[i]? = some (tblk g t cs)) (hu : cs[k]? = some u) : wr.cell? ⟨g, k, none⟩ = some u := (show Blk wr g t cs from h.at_ i hi).cell hu
theorem Sep.frz {g k : Nat} {t : TypeId} {cs : List Value} (h : Sep w0 wr ts) (i : Nat) (hi : ts[i]? = some (tblk g t cs)) : wr.frozen? ⟨g, k, none⟩ = false := (show Blk wr g t cs from h.at_ i hi).frozen k
theorem Sep.blk {g : Nat} {t : TypeId} {cs : List Value} (h : Sep w0 wr ts) (i : Nat) (hi : ts[i]? = some (tblk g t cs)) : g < wr.heap.size ∧ w0.heap.size ≤ g := ⟨(show Blk wr g t cs from h.at_ i hi).lt, h.new g (Sep.mem hi (by simp [tblk]))⟩
theorem Sep.sl (h : Sep w0 wr ts) (i : Nat) (hi : ts[i]? = some (tsl E e xs v fp)) : SlOwn E e wr xs v fp := h.at_ i hi
theorem Sep.slnew (h : Sep w0 wr ts) (i : Nat) (hi : ts[i]? = some (tsl E e xs v fp)) : ∀ b, b ∈ fp → w0.heap.size ≤ b ∧ b < wr.heap.size := fun b hb => ⟨h.new b (Sep.mem hi hb), (show SlOwn E e wr xs v fp from h.at_ i hi).olt b hb⟩
theorem Sep.rowne {g : Nat} {t : TypeId} {cs : List Value} (h : Sep w0 wr ts) (i j : Nat) (hi : ts[i]? = some (tsl E e xs v fp)) (hj : ts[j]? = some (tblk g t cs)) (hij : i ≠ j) : some g ≠ v.ownBlock := fun hh => h.apart hi hj hij g (row_in (h.sl i hi) hh.symm) (by simp [tblk])
end
end Mm
end Go.Proofs.Ytaepohocabealaa
