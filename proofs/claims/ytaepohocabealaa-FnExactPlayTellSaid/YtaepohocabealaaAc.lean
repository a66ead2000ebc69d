/-
  A slice that grows by append: 'out = append(out, x)'. No program in sight. No conditions.
-/
import Derived.Test.YtaepohocabealaaBk
namespace Go.Proofs.Ytaepohocabealaa
open Go.RowKit
namespace Mm
/-- all that was there in w is as it was; v holds xs, and is ours: its blocks are new since w -/
def Acc {α : Type} (E : Rep α) (t : TypeId) (w : World) (xs : List α) (v : Value) (wr : World) : Prop :=
  ∃ fp, SlOwn E t wr xs v fp ∧ fp.Nodup ∧ (∀ b, b ∈ fp → w.heap.size ≤ b) ∧ Below w.heap.size w wr
section
variable {α : Type} {E : Rep α} {t : TypeId} {w wr W2 : World} {xs : List α} {v : Value}
theorem Acc.nil (h : Below w.heap.size w wr) : Acc E t w [] (.slice none 0 0) wr := ⟨[], SlOwn.nil, List.nodup_nil, (fun b hb => by cases hb), h⟩
theorem Acc.bel (h : Acc E t w xs v wr) : Below w.heap.size w wr := by obtain ⟨_, _, _, _, hb⟩ := h; exact hb
theorem Acc.row (h : Acc E t w xs v wr) : ∀ k, v.ownBlock = some k → w.heap.size ≤ k ∧ k < wr.heap.size := by
  obtain ⟨fp, h1, h2, h3, h4⟩ := h
  have h5 := h1.olt
  obtain ⟨es, _, _, rfl⟩ := h1
  intro k hk
  have hm : k ∈ v.ownBlock.toList ++ es.flatMap (·.2) := List.mem_append_left _ (by rw [hk]; simp)
  exact ⟨h3 k hm, h5 k hm⟩
theorem Acc.addr {A : Option Addr} {n c : Nat} (h : Acc E t w xs (.slice A n c) wr) (h0 : 0 < xs.length) : ∃ g, A = some ⟨g, 0, none⟩ ∧ w.heap.size ≤ g ∧ g < wr.heap.size := by
  have hr := h.row
  obtain ⟨fp, h1, h2, h3, h4⟩ := h
  obtain ⟨es, he, ho, rfl⟩ := h1
  obtain ⟨g, cap, hf, _⟩ := ho.form h0
  injection hf with hA
  subst hA
  exact ⟨g, rfl, hr g rfl⟩
theorem Acc.frozen {g n c : Nat} (h : Acc E t w xs (.slice (some ⟨g, 0, none⟩) n c) wr) (j : Nat) : wr.frozen? ⟨g, j, none⟩ = false := by
  obtain ⟨fp, h1, h2, h3, h4⟩ := h
  exact h1.frozen j
theorem Acc.step (h : Acc E t w xs v wr) (hb : Below wr.heap.size wr W2) : Acc E t w xs v W2 := by
  obtain ⟨fp, h1, h2, h3, h4⟩ := h
  exact ⟨fp, h1.okeep fun b hb' => hb.block b (h1.olt b hb'), h2, h3, below_step h4 hb⟩
theorem Acc.form (h : Acc E t w xs v wr) : ∃ A n c, v = .slice A n c ∧ n = xs.length ∧ n ≤ c ∧ c ≤ maxLen ∧ (A = none → c = 0) := by
  obtain ⟨_, h1, _⟩ := h; exact h1.form
theorem Acc.ret {A : Option Addr} {n c : Nat} {b : Bool} (h : Acc E t w xs (.slice A n c) wr) : RetS2 E t w xs b (.returned (.tuple #[.slice A n c, .bool b])) wr := by
  obtain ⟨fp, h1, h2, h3, h4⟩ := h
  exact ⟨A, n, c, fp, rfl, h1, h2, h3, h4⟩
theorem Acc.at_ {A : Option Addr} {n c : Nat} (h : Acc E t w xs (.slice A n c) wr) : SlAt E wr wr.heap.size xs A n c := by
  obtain ⟨fp, h1, h2, h3, h4⟩ := h
  exact h1.weak h1.olt
theorem Acc.push (h : Acc E t w xs v wr) (hb2 : Below wr.heap.size wr W2) {x : α} {cx : List Value} {fx : List Nat} (hx : E.own W2 x cx fx) (hxd : fx.Nodup) (hxf : ∀ b, b ∈ fx → wr.heap.size ≤ b) :
    ∃ l, W2.ownsRow 0 t E.size v xs.length l ∧ ∀ gg cap w1, w1.ownsRow 0 t E.size (.slice (some ⟨gg, 0, none⟩) (xs.length + 1) cap) (xs.length + 1) (l ++ cx) → W2.grownBy w1 v.ownBlock → (v.ownBlock = some gg ∨ gg = W2.heap.size) →
      Acc E t w (xs ++ [x]) (.slice (some ⟨gg, 0, none⟩) (xs.length + 1) cap) w1 := by
  obtain ⟨fp, h1, h2, h3, h4⟩ := h
  have hown2 := h1.okeep (w' := W2) fun b hb => hb2.block b (h1.olt b hb)
  obtain ⟨l, ho2, hnext⟩ := hown2.push hx h2 hxd (fun b hb hm => by have := hxf b hb; have := h1.olt b hm; omega)
  refine ⟨l, ho2, fun gg cap w1 k1 k2 k3 => ?_⟩
  obtain ⟨fp', h5, h6, h7⟩ := hnext _ w1 k1 k2 (k3.elim (fun h => .inl h.symm) (fun h => .inr (by rw [h]; rfl)))
  have hs := h4.size
  have hs2 := hb2.size
  refine ⟨fp', h5, h6, fun b hb => ?_, (below_step h4 hb2).grown k2 (by omega) (fun k hk => h3 k ?_)⟩
  · rcases h7 b hb with h | h | h
    · exact h3 b h
    · have := hxf b h; omega
    · omega
  · obtain ⟨es, _, _, rfl⟩ := h1
    exact List.mem_append_left _ (by rw [hk]; simp)
end
end Mm
end Go.Proofs.Ytaepohocabealaa
