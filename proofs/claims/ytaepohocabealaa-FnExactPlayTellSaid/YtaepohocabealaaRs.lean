/-
  Regions that draw their order and give: a store among the operations of the plan (it yields no value; the block that it stores into is taken and given back). No program in sight. No conditions.
-/
import Derived.Test.YtaepohocabealaaRa
namespace Go.Proofs.Ytaepohocabealaa
open Go.RowKit
namespace Mm
section
variable {P : Program} {F : List Nat} {w : World} {N : Nat} {ops : Array Oper} {D : World → Prop} {rel : Nat → Option Rel} {takes : Nat → List Nat} {Q : Act → Sig → Prop} {i : Nat} {o : Oper} {rest : List Oper} {a : Act} {σ : Sig}
def GvQn (F : List Nat) (w : World) (r : List Thing → Prop) (df : List Deferred) (rest : List Thing) (x : Exit) (a' : Act) (w' : World) : Prop :=
  x = .normal ∧ a'.defers = df ∧ ∃ ds, r ds ∧ SepF F w w' (ds ++ rest)
theorem gvalid_none {r : Value → List Thing → Prop} {r' : List Thing → Prop} (hr : ∀ u ds, r' ds → r u ds) (hd : o.dst = none) (hw : Region.wanted o (yielded ops a.tmps) = true) (hi : i ≤ N) (hn : (takes i).Nodup) (hk : ∀ k ∈ takes i, k ≤ N)
    (h : ∀ others X, SepF F w X ((takes i).flatMap σ ++ others) → wpList P ops (GvQn F w r' a.defers others) [o] a X) : GValid P (GC F w N) takes i o a σ r := by
  intro σ' X hC hag
  have e4 : (takes i).flatMap σ' = (takes i).flatMap σ := by
    rw [List.flatMap_def, List.flatMap_def]; exact congrArg List.flatten (List.map_congr_left hag)
  have h0 : SepF F w X (sigAll N σ') := hC
  have h1 := h0.sigTake hn hk
  rw [e4] at h1
  have h2 := h _ X h1
  have fin : ∀ u w', GvQn F w r' a.defers (sigAll N (sigUpd takes σ' i [])) .normal (a.put o.dst u) w' → ∃ ds, r u ds ∧ GC F w N (sigUpd takes σ' i ds) w' := fun u w' ⟨_, _, ds, h3, h4⟩ =>
    ⟨ds, hr u ds h3, h4.permE (sigAll_upd hi)⟩
  unfold wpList at h2
  rw [if_pos hw] at h2
  have h3 : o.wp P a X (fun a' w' => GvQn F w r' a.defers (sigAll N (sigUpd takes σ' i [])) .normal a' w') (GvQn F w r' a.defers (sigAll N (sigUpd takes σ' i []))) := by
    first
      | exact h2
      | exact h2.elim id fun h => by obtain ⟨_, a', w', h, _⟩ := h; cases h
  unfold Oper.wp at h3
  generalize (execOp a.eval o).run P X = R at *
  cases R with
  | ok n w' =>
    cases n <;> simp only [Oper.upon] at h3 <;> simp only [ups] <;> first | exact fin _ _ h3 | skip
    · refine h3.mono fun e w'' he => ?_
      cases e with
      | returned v => exact ⟨v, rfl, fin _ _ he⟩
      | panicked c => exact absurd he.1 (by simp)
      | outgrown => obtain ⟨a', w', h, _⟩ := he; cases h
    · have := h3.2.1
      rw [hd] at this
      exact absurd this (by simp [Act.put])
    · exact Rows.mono h3 fun v w'' he => fin _ _ he
  | halt x w' => cases x <;> simp only [Oper.upon] at h3; exact absurd h3.1 (by simp)
/-- what a store of a struct gives: the block, written anew -/
def gSto (T : TypeId) : Rel := fun vals _ _ ds => ∃ g cs, vals = [.pointer (some ⟨g, 0, none⟩), .agg cs.toArray] ∧ ds = [tblk g T cs]
/-- a store into the block that operation k gave -/
theorem give_store (T : TypeId) (g : Nat) (cs0 cs : List Value) (k : Nat) (hw : Region.wanted o (yielded ops a.tmps) = true) (hr : rel i = some (gSto T)) (hd : o.dst = none) (hi : Nat.ble i N = true) (ht : takes i = [k]) (hk : Nat.ble k N = true)
    (htk : σ k = [tblk g T cs0]) (hv : o.op.operands.toList.map a.eval = [.pointer (some ⟨g, 0, none⟩), .agg cs.toArray])
    (h : ∀ others X, SepF F w X (tblk g T cs0 :: others) → wpList P ops (GvQn F w (fun ds => ds = [tblk g T cs]) a.defers others) [o] a X)
    (hnext : wpGive P ops (GC F w N) D rel takes Q (i + 1) rest a (sigUpd takes σ i [tblk g T cs])) : wpGive P ops (GC F w N) D rel takes Q i (o :: rest) a σ := by
  have e : (takes i).flatMap σ = [tblk g T cs0] := by rw [ht, ← htk]; simp
  refine give_rel hw hr (gvalid_none (r' := fun ds => ds = [tblk g T cs]) (fun u ds h => ?_) hd hw (Nat.le_of_ble_eq_true hi) (by rw [ht]; simp) (by rw [ht]; intro x hx; rw [List.mem_singleton.1 hx]; exact Nat.le_of_ble_eq_true hk) ?_) ?_ ?_
  · exact ⟨g, cs, hv, h⟩
  · rw [e]; exact h
  · exact ⟨undef, _, g, cs, hv, rfl⟩
  · rintro v ds ⟨g', cs', hv', rfl⟩
    have h1 := hv.symm.trans hv'
    injection h1 with h2 h3
    injection h3 with h4 _
    injection h2 with h5
    injection h5 with h6
    injection h6 with h7
    injection h4 with h8
    have h9 : cs = cs' := by simpa using congrArg Array.toList h8
    subst h7 h9
    rw [hd]
    exact hnext
end
end Mm
end Go.Proofs.Ytaepohocabealaa
