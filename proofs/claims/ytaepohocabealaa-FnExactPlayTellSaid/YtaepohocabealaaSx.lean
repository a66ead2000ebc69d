/-
  More on the list of things that a call may change: at its end, some of them, behind a call that hands back things. No program in sight. No conditions.
-/
import Derived.Test.YtaepohocabealaaSf
namespace Go.Proofs.Ytaepohocabealaa
open Go.RowKit
namespace Mm
section
variable {F : List Nat} {w0 wr W : World} {ts : List Thing} {t a b c d x y : Thing}
theorem SepF.addEnd (h : SepF F w0 wr ts) (hb : Below wr.heap.size wr W) (ht : t.holds W) (hnd : t.fp.Nodup) (hnew : ∀ b, b ∈ t.fp → wr.heap.size ≤ b) : SepF F w0 W (ts ++ [t]) :=
  (h.add hb ht hnd hnew).conv (by simp only [List.flatMap_append, List.flatMap_cons, List.flatMap_nil, List.append_nil]; exact List.perm_append_comm) (fun u hu => by
    rcases List.mem_append.1 hu with hu | hu
    · exact (h.step hb).hold u hu
    · rw [List.mem_singleton.1 hu]; exact ht)
theorem SepF.allocEnd {g : Nat} (h : SepF F w0 wr ts) (hg : wr.heap.size = g) (T : TypeId) (cs : List Value) : SepF F w0 (wr.alloc (.cells cs.toArray T)) (ts ++ [tblk g T cs]) := by
  subst hg
  exact h.addEnd (below_new (Below.refl _ _) _) (Blk.new wr T cs) (by simp [tblk]) (by simp [tblk])
theorem SepF.swapEnd (h : SepF F w0 wr (ts ++ [x, y])) : SepF F w0 wr (ts ++ [y, x]) :=
  h.conv (by simp only [List.flatMap_append, List.flatMap_cons, List.flatMap_nil, List.append_nil]; exact List.Perm.append_left _ List.perm_append_comm) (fun u hu => h.hold u (by
    simp only [List.mem_append, List.mem_cons, List.not_mem_nil, or_false] at hu ⊢
    rcases hu with hu | hu | hu
    · exact .inl hu
    · exact .inr (.inr hu)
    · exact .inr (.inl hu)))
/-- some of the things, by their numbers -/
theorem SepF.sel (h : SepF F w0 wr ts) : ∀ (is : List Nat) {us : List Thing}, is.Nodup → us = is.filterMap (fun i => ts[i]?) → SepF F w0 wr us
  | [], us, _, hu => by subst hu; exact ⟨h.chg, by simp, by simp, by simp⟩
  | i :: is, us, hn, hu => by
    rw [List.nodup_cons] at hn
    have ih := SepF.sel h is (us := is.filterMap (fun i => ts[i]?)) hn.2 rfl
    cases hi : ts[i]? with
    | none => rw [List.filterMap_cons, hi] at hu; rw [hu]; exact ih
    | some t =>
      rw [List.filterMap_cons, hi] at hu
      rw [hu]
      refine ⟨h.chg, ?_, fun b hb => ?_, fun u hu => ?_⟩
      · rw [List.flatMap_cons, List.nodup_append]
        refine ⟨h.ndat hi, ih.nd, fun a ha b hb e => ?_⟩
        subst e
        obtain ⟨s, hs, hb⟩ := List.mem_flatMap.1 hb
        obtain ⟨j, hj, hs⟩ := List.mem_filterMap.1 hs
        exact h.apart hi hs (fun e => hn.1 (e ▸ hj)) a ha hb
      · rw [List.flatMap_cons] at hb
        rcases List.mem_append.1 hb with hb | hb
        · exact h.new b (SepF.mem hi hb)
        · exact ih.new b hb
      · rcases List.mem_cons.1 hu with rfl | hu
        · exact h.at_ i hi
        · exact ih.hold u hu
/-- behind a call that was handed thing i, and hands back things -/
theorem SepF.callAll {us : List Thing} (h : SepF F w0 wr ts) (i : Nat) (hi : ts[i]? = some t) (hS : SepF t.fp wr W us) : SepF F w0 W (ts.set i tnil ++ us) := by
  have h1 := h.upd (t' := ⟨us.flatMap (·.fp), fun w => ∀ u, u ∈ us → u.holds w, fun hh k u hu => u.keep (hh u hu) fun b hb => k b (List.mem_flatMap.2 ⟨u, hu, hb⟩), fun hh b hb => by
    obtain ⟨u, hu, hb⟩ := List.mem_flatMap.1 hb
    exact u.lt (hh u hu) b hb⟩) hi hS.chg hS.hold hS.nd hS.new
  have e1 := (flat_split (·.fp) hi ⟨us.flatMap (·.fp), fun w => ∀ u, u ∈ us → u.holds w, fun hh k u hu => u.keep (hh u hu) fun b hb => k b (List.mem_flatMap.2 ⟨u, hu, hb⟩), fun hh b hb => by
    obtain ⟨u, hu, hb⟩ := List.mem_flatMap.1 hb
    exact u.lt (hh u hu) b hb⟩).2
  have e2 := (flat_split (·.fp) hi tnil).2
  refine h1.conv ?_ (fun u hu => ?_)
  · rw [List.flatMap_append, e1, e2]
    simp only [tnil, List.nil_append, List.append_assoc]
    exact List.Perm.append_left _ List.perm_append_comm
  · rcases List.mem_append.1 hu with hu | hu
    · obtain ⟨k, hk⟩ := List.mem_iff_getElem?.1 hu
      by_cases hik : i = k
      · subst hik
        rw [List.getElem?_set_self (List.getElem?_eq_some_iff.1 hi).1] at hk
        injection hk with hk
        subst hk
        exact trivial
      · refine h1.hold u (List.mem_of_getElem? (i := k) ?_)
        rw [List.getElem?_set_ne hik] at hk ⊢
        exact hk
    · exact hS.hold u hu
theorem SepF.start (w : World) : SepF [] w w [] := ⟨Chg.refl _ _, by simp, by simp, by simp⟩
theorem SepF.bel0 (h : SepF [] w0 wr ts) : Below w0.heap.size w0 wr := Below.chg (Below.refl _ _) h.chg (Nat.le_refl _) (by simp)
end
theorem lt_keep {w w' : World} {b : Nat} (h : b < w.heap.size) (k : w'.heap[b]? = w.heap[b]?) : b < w'.heap.size := by
  rcases Nat.lt_or_ge b w'.heap.size with h3 | h3
  · exact h3
  · rw [Array.getElem?_eq_none h3, Array.getElem?_eq_getElem h] at k
    cases k
/-- data that several variables share -/
def tpool {α : Type} (R : Rep α) (fp : List Nat) (ss : List (α × List Value)) : Thing :=
  ⟨fp, fun w => (∀ b, b ∈ fp → b < w.heap.size) ∧ ∀ p, p ∈ ss → ∃ f, (∀ b, b ∈ f → b ∈ fp) ∧ R.own w p.1 p.2 f,
    fun h k => And.intro (fun b hb => lt_keep (h.1 b hb) (k b hb)) (fun p hp => (h.2 p hp).elim fun f hf => ⟨f, hf.1, R.okeep hf.2 fun b hb => k b (hf.1 b hb)⟩), fun h => h.1⟩
theorem SepF.pool {α : Type} {R : Rep α} {F : List Nat} {w0 wr : World} {ts : List Thing} {fp : List Nat} {ss : List (α × List Value)} (h : SepF F w0 wr ts) (i : Nat) (hi : ts[i]? = some (tpool R fp ss)) {x : α} {cs : List Value} (hx : (x, cs) ∈ ss) : R.at_ wr wr.heap.size x cs := by
  obtain ⟨h1, h2⟩ := h.at_ i hi
  obtain ⟨f, h3, h4⟩ := h2 _ hx
  exact R.weak h4 (R.olt h4)
theorem SepF.pool2 {α : Type} {R : Rep α} {F : List Nat} {w0 wr : World} {ts : List Thing} {fp fx fy : List Nat} {ss ss' : List (α × List Value)} {x y : α} {cx cy : List Value} (h : SepF F w0 wr (tpool R fp ss :: tow R x cx fx :: tow R y cy fy :: ts))
    (hs : ∀ p, p ∈ ss' → p ∈ ss ∨ p = (x, cx) ∨ p = (y, cy)) : SepF F w0 wr (tpool R (fp ++ (fx ++ fy)) ss' :: ts) := by
  have h0 := h.hold _ List.mem_cons_self
  have h1 : R.own wr x cx fx := h.hold (tow R x cx fx) (by simp)
  have h2 : R.own wr y cy fy := h.hold (tow R y cy fy) (by simp)
  refine h.conv (by simp [tpool, tow]) (List.forall_mem_cons.2 ⟨⟨fun b hb => ?_, fun p hp => ?_⟩, fun u hu => h.hold u (by simp [hu])⟩)
  · rcases List.mem_append.1 hb with hb | hb
    · exact h0.1 b hb
    · rcases List.mem_append.1 hb with hb | hb
      · exact R.olt h1 b hb
      · exact R.olt h2 b hb
  · rcases hs p hp with hp | rfl | rfl
    · obtain ⟨f, h3, h4⟩ := h0.2 p hp
      exact ⟨f, fun b hb => List.mem_append_left _ (h3 b hb), h4⟩
    · exact ⟨fx, fun b hb => List.mem_append_right _ (List.mem_append_left _ hb), h1⟩
    · exact ⟨fy, fun b hb => List.mem_append_right _ (List.mem_append_right _ hb), h2⟩
/-- the reading of an owned struct among the things -/
theorem SepF.rd {α : Type} {R : Rep α} {F : List Nat} {w0 wr : World} {ts : List Thing} {x : α} {cs : List Value} {fp : List Nat} (h : SepF F w0 wr ts) (i : Nat) (hi : ts[i]? = some (tow R x cs fp)) : R.at_ wr wr.heap.size x cs := by
  have h1 : R.own wr x cs fp := h.at_ i hi
  exact R.weak h1 (R.olt h1)
end Mm
end Go.Proofs.Ytaepohocabealaa
