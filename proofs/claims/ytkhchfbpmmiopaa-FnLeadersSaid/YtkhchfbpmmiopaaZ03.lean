/-
  Joined texts, in build order: Ap, Ra, Rs, Wa, N0, N1, N2, N3, N4, Op, E0, N5, Pk, Ph. Each part says what it proves; no conditions beyond those that a part names.
-/
import Derived.Test.YtkhchfbpmmiopaaZ01
import Derived.Test.YtkhchfbpmmiopaaZ02
import Derived.Deep.AppendLies
import Derived.Test.YtkhchfbpmmiopaaRows
import Derived.WalkKit
import Derived.WalkLawsBesides
import Derived.WalkSpells
import Derived.Outline
import Derived.IntWalk
import Derived.Lib.Hide
import Derived.Lib.Strings
import Derived.ProofKit
import Derived.OpenShut
import Derived.Deep.Slices
import Derived.Deep.DeepFit
import Derived.Deep.LoopGhost
import Derived.Laws.StructEq
import Derived.Shelf.Spec.SearchS
/-
  An owned slice whose element k is itself owned: the element is replaced by one that leads elsewhere; an element that is a slice grows by append. No program in sight. No conditions.
-/
namespace Go.Proofs.Ytkhchfbpmmiopaa
open Go.RowKit
namespace Mm
section
variable {α : Type} {E : Rep α} {e : TypeId} {w : World} {xs : List α} {fp : List Nat}
theorem SlOwn.repl {g n c : Nat} (h : SlOwn E e w xs (.slice (some ⟨g, 0, none⟩) n c) fp) (hnd : fp.Nodup) (hE : E.size = 1) {i : Nat} {x : α} (hi : xs[i]? = some x) :
    ∃ cs fx, E.own w x cs fx ∧ fx.Nodup ∧ (∀ b, b ∈ fx → b ∈ fp ∧ b ≠ g) ∧ (∀ j u, cs[j]? = some u → w.cell? ⟨g, i + j, none⟩ = some u) ∧
      ∀ W x' u' fx', Chg fx w W → E.own (W.setCell ⟨g, i, none⟩ u') x' [u'] fx' → fx'.Nodup → (∀ b, b ∈ fx' → b ∈ fx ∨ w.heap.size ≤ b) →
        ∃ fp', SlOwn E e (W.setCell ⟨g, i, none⟩ u') (xs.set i x') (.slice (some ⟨g, 0, none⟩) n c) fp' ∧ fp'.Nodup ∧ ∀ b, b ∈ fp' → b ∈ fp ∨ w.heap.size ≤ b := by
  obtain ⟨es, he, ho, rfl⟩ := h
  have hn : n = xs.length := by
    rcases ho.2 with ⟨h, _⟩ | ⟨g', cap, cur, h, _⟩
    · cases h
    · injection h
  subst hn
  have hil : i < xs.length := (List.getElem?_eq_some_iff.1 hi).1
  have hie : i < es.length := by rw [he.1]; exact hil
  have hy := List.getElem?_eq_getElem hie
  have hown := he.2 i x _ hi hy
  simp only [Value.ownBlock, Option.toList_some, List.singleton_append, List.nodup_cons] at hnd
  have hgn : ∀ y ∈ es, g ∉ y.2 := fun y hy hg => hnd.1 (List.mem_flatMap.2 ⟨y, hy, hg⟩)
  have e1 : es = es.take i ++ es[i] :: es.drop (i + 1) := by rw [← List.drop_eq_getElem_cons hie, List.take_append_drop]
  have hd := hnd.2
  rw [e1] at hd
  simp only [List.flatMap_append, List.flatMap_cons, List.nodup_append] at hd
  have hmem : ∀ b, b ∈ es[i].2 → b ∈ es.flatMap (·.2) := fun b hb => List.mem_flatMap.2 ⟨_, List.getElem_mem hie, hb⟩
  have hlt : g < w.heap.size := (ho.lt g (by simp [Value.ownBlock])).2
  have holt : ∀ b, b ∈ es.flatMap (·.2) → b < w.heap.size := fun b hb => by
    obtain ⟨y, hy, hb⟩ := List.mem_flatMap.1 hb
    obtain ⟨k, hk, rfl⟩ := List.mem_iff_getElem.1 hy
    exact E.olt (he.2 k _ _ (List.getElem?_eq_getElem (show k < xs.length by rw [← he.1]; exact hk)) (List.getElem?_eq_getElem hk)) b hb
  refine ⟨es[i].1, es[i].2, hown, hd.2.1.1, fun b hb => ⟨List.mem_append_right _ (hmem b hb), fun e => hgn _ (List.getElem_mem hie) (e ▸ hb)⟩, fun j u hu => ?_, fun W x' u' fx' hc hx' hxn hxs => ?_⟩
  · have := ho.cells (g := g) rfl (i * E.size + j) u (flatMap_get (·.1) E.size es he.len i _ j u hy hu)
    rw [add0, hE, Nat.mul_one] at this
    exact this
  · have m1 : ∀ y, y ∈ es.take i → ∀ b, b ∈ y.2 → b ∉ es[i].2 := fun y hy b hb hm => hd.2.2 b (List.mem_flatMap.2 ⟨y, hy, hb⟩) b (List.mem_append_left _ hm) rfl
    have m2 : ∀ y, y ∈ es.drop (i + 1) → ∀ b, b ∈ y.2 → b ∉ es[i].2 := fun y hy b hb hm => hd.2.1.2.2 b hm b (List.mem_flatMap.2 ⟨y, hy, hb⟩) rfl
    have e2 : es.set i ([u'], fx') = es.take i ++ ([u'], fx') :: es.drop (i + 1) := List.set_eq_take_append_cons_drop.trans (by rw [if_pos hie])
    have hsub : ∀ b, b ∈ (es.set i ([u'], fx')).flatMap (·.2) → b ∈ es.flatMap (·.2) ∨ w.heap.size ≤ b := by
      intro b hb
      obtain ⟨y, hy, hb⟩ := List.mem_flatMap.1 hb
      rcases List.mem_or_eq_of_mem_set hy with h | rfl
      · exact .inl (List.mem_flatMap.2 ⟨y, h, hb⟩)
      · rcases hxs b hb with h | h
        · exact .inl (hmem b h)
        · exact .inr h
    have hoW : W.ownsRow 0 e E.size (.slice (some ⟨g, 0, none⟩) xs.length c) xs.length (es.flatMap (·.1)) := by
      refine ⟨ho.1, ?_⟩
      rcases ho.2 with h | ⟨g', cap, cur, hv, h1, h2, h3⟩
      · exact .inl h
      · injection hv with hA _ hcap
        subst hcap
        injection hA with hA
        injection hA with hA
        subst hA
        exact .inr ⟨g, _, cur, rfl, h1, (hc.block g hlt (hgn _ (List.getElem_mem hie))).trans h2, h3⟩
    refine ⟨_, ⟨es.set i ([u'], fx'), ⟨by rw [List.length_set, List.length_set, he.1], fun k y z hy hz => ?_⟩, ?_, rfl⟩, ?_, ?_⟩
    · by_cases hki : i = k
      · subst hki
        rw [List.getElem?_set_self hie] at hz
        rw [List.getElem?_set_self hil] at hy
        injection hy with hy; injection hz with hz
        subst hy; subst hz
        exact hx'
      · rw [List.getElem?_set_ne hki] at hz hy
        have hk := he.2 k y z hy hz
        refine E.okeep hk fun b hb => (Below.heap_setCell _ _ _ _ (show b ≠ g from fun e => hgn z (List.mem_of_getElem? hz) (e ▸ hb))).trans (hc.block b (E.olt hk b hb) ?_)
        have hkl : k < es.length := (List.getElem?_eq_some_iff.1 hz).1
        rcases Nat.lt_or_gt_of_ne hki with h | h
        · refine m2 z (List.mem_of_getElem? (i := k - (i + 1)) ?_) b hb
          rw [List.getElem?_drop, show i + 1 + (k - (i + 1)) = k by omega]
          exact hz
        · refine m1 z (List.mem_of_getElem? (i := k) ?_) b hb
          rw [List.getElem?_take, if_pos h]
          exact hz
    · rw [List.length_set]
      have h1 := (hoW.stored i u').1
      have hll := setList_elems E.size es i [u'] fx' he.len (by rw [hE]; rfl) hie
      have h2 : setList (es.flatMap (·.1)) (i * E.size) [u'] = (es.flatMap (·.1)).set i u' := by rw [hE, Nat.mul_one]; rfl
      rw [← hll, h2]
      rw [hE] at h1 ⊢
      exact h1
    · simp only [Value.ownBlock, Option.toList_some, List.singleton_append, List.nodup_cons]
      refine ⟨fun hg => ?_, ?_⟩
      · rcases hsub g hg with h | h
        · exact hnd.1 h
        · omega
      rw [e2]
      simp only [List.flatMap_append, List.flatMap_cons, List.nodup_append]
      refine ⟨hd.1, ⟨hxn, hd.2.1.2.1, fun a ha b hb hab => ?_⟩, fun a ha b hb hab => ?_⟩
      · rcases hxs a ha with h | h
        · exact hd.2.1.2.2 a h b hb hab
        · subst hab
          have := holt a (by rw [e1]; simp only [List.flatMap_append, List.flatMap_cons]; exact List.mem_append_right _ (List.mem_append_right _ hb))
          omega
      · subst hab
        rcases List.mem_append.1 hb with hb | hb
        · rcases hxs a hb with h | h
          · exact hd.2.2 a ha a (List.mem_append_left _ h) rfl
          · have := holt a (by rw [e1]; simp only [List.flatMap_append]; exact List.mem_append_left _ ha)
            omega
        · exact hd.2.2 a ha a (List.mem_append_right _ hb) rfl
    · intro b hb
      rcases List.mem_append.1 hb with h | h
      · exact .inl (List.mem_append_left _ h)
      · rcases hsub b h with h | h
        · exact .inl (List.mem_append_right _ h)
        · exact .inr h
end
theorem cell_heq {w w' : World} {g : Nat} (h : w'.heap[g]? = w.heap[g]?) (i : Nat) : w'.cell? ⟨g, i, none⟩ = w.cell? ⟨g, i, none⟩ := by simp [World.cell?, h]
theorem frz_heq {w w' : World} {g : Nat} (h : w'.heap[g]? = w.heap[g]?) (i : Nat) : w'.frozen? ⟨g, i, none⟩ = w.frozen? ⟨g, i, none⟩ := by simp [World.frozen?, h]
/-- the inner slice of element k, alone: when it has become another, its header is stored in its place -/
theorem SepF.openIn {β : Type} {E1 : Rep β} {e1 e2 : TypeId} {F : List Nat} {w0 wr : World} {ts : List Thing} {xss : List (List β)} {ys : List β} {fp : List Nat} {g n c k : Nat}
    (h : SepF F w0 wr ts) (i : Nat) (hi : ts[i]? = some (tsl (slice E1 e1) e2 xss (.slice (some ⟨g, 0, none⟩) n c) fp)) (hk : xss[k]? = some ys) :
    ∃ A m d fx, wr.cell? ⟨g, k, none⟩ = some (.slice A m d) ∧ m = ys.length ∧ SlOwn E1 e1 wr ys (.slice A m d) fx ∧ fx.Nodup ∧ g ∉ fx ∧ (∀ (j : Nat) u, j ≠ i → ts[j]? = some u → ∀ b, b ∈ u.fp → b ∉ fx) ∧ (∀ b, b ∈ fx → b ∈ fp) ∧
      ∀ W ys' A' m' d' fx', SepF fx wr W [tsl E1 e1 ys' (.slice A' m' d') fx'] →
        W.cell? ⟨g, k, none⟩ = some (.slice A m d) ∧ W.frozen? ⟨g, k, none⟩ = false ∧ (∀ (j : Nat) u, j ≠ i → ts[j]? = some u → u.holds W) ∧
        ∃ fp', SepF F w0 (W.setCell ⟨g, k, none⟩ (.slice A' m' d')) (ts.set i (tsl (slice E1 e1) e2 (xss.set k ys') (.slice (some ⟨g, 0, none⟩) n c) fp')) := by
  have ho : SlOwn (slice E1 e1) e2 wr xss (.slice (some ⟨g, 0, none⟩) n c) fp := h.at_ i hi
  have hg2 : g ∈ fp := ho.mem_block
  have hglt : g < wr.heap.size := ho.olt g hg2
  obtain ⟨cs, fx, k1, k2, k3, k4, k5⟩ := ho.repl (h.ndat hi) rfl hk
  obtain ⟨v, rfl, hv⟩ := k1
  obtain ⟨A, m, d, rfl, hm, hmc, _⟩ := hv.form
  have hc := k4 0 _ rfl
  have hgx : g ∉ fx := fun hh => (k3 g hh).2 rfl
  refine ⟨A, m, d, fx, hc, hm, hv, k2, hgx, fun j u hji hj b hb hm => h.apart hj hi hji b hb (k3 b hm).1, fun b hb => (k3 b hb).1, fun W ys' A' m' d' fx' hS => ?_⟩
  have hchg : Chg fx wr W := hS.chg
  have m1 : SlOwn E1 e1 W ys' (.slice A' m' d') fx' := hS.sl 0 rfl
  have hgq : ∀ b, b ∈ fx' → b ∈ fx ∨ wr.heap.size ≤ b := fun b hb => hS.new b (by simpa [tsl] using hb)
  have hgnq : g ∉ fx' := fun hh => by
    rcases hgq g hh with h | h
    · exact hgx h
    · omega
  have hown : (slice E1 e1).own (W.setCell ⟨g, k, none⟩ (.slice A' m' d')) ys' [.slice A' m' d'] fx' :=
    ⟨_, rfl, m1.okeep fun b hb => Below.heap_setCell _ _ _ _ (show b ≠ g from fun e => hgnq (e ▸ hb))⟩
  obtain ⟨fp', q1, q2, q3⟩ := k5 W ys' _ fx' hchg hown (by simpa [tsl] using hS.nd) hgq
  refine ⟨?_, ?_, fun j u hji hj => ?_, fp', ?_⟩
  · rw [cell_heq (hchg.block g hglt hgx)]
    exact hc
  · rw [frz_heq (hchg.block g hglt hgx)]
    exact ho.frozen k
  · exact u.keep (h.at_ j hj) fun b hb => hchg.block b (u.lt (h.at_ j hj) b hb) (fun hm => h.apart hj hi hji b hb (k3 b hm).1)
  · exact h.upd hi ((hchg.more fun b hb => (k3 b hb).1).setCell hg2 _) q1 q2 q3
end Mm
end Go.Proofs.Ytkhchfbpmmiopaa

/-
  Regions that draw their order and append to a slice that is owned: the plan's law on append, and the class of the worlds in which only certain blocks have turned. No program in sight. No conditions.
-/
namespace Go.Proofs.Ytkhchfbpmmiopaa
open Go.RowKit
/-- a world in which only blocks of F have turned -/
structure Cha (F : List Nat) (w : World) where
  X : World
  h : Mm.Chg F w X
def cha (F : List Nat) (w : World) (x : Cha F w) : World := x.X
instance (F : List Nat) (w : World) : Nonempty (Cha F w) := ⟨⟨w, Mm.Chg.refl _ _⟩⟩
theorem cha_cell {F : List Nat} {w : World} (x : Cha F w) (a : Addr) (hn : a.block ∉ F) (h : (w.cell? a).isSome = true) : (cha F w x).cell? a = w.cell? a := by
  obtain ⟨u, hu⟩ := Option.isSome_iff_exists.1 h
  exact World.cell?_of_block (x.h.block a.block (World.block_lt_of_cell? w a hu) hn)
namespace Mm
theorem SepF.atW {F : List Nat} {w0 wr W : World} {ts : List Thing} (h : SepF F w0 wr ts) (e : wr = W) : SepF F w0 W ts := e ▸ h
theorem SepF.rot3 {F : List Nat} {w0 wr : World} {ts : List Thing} {a b c : Thing} (h : SepF F w0 wr (a :: b :: c :: ts)) : SepF F w0 wr (ts ++ [a, b, c]) := h.permE (List.perm_append_comm (l₁ := ts) (l₂ := [a, b, c]))
theorem sep_cha {F : List Nat} {w X : World} {us : List Thing} (h : SepF F w X us) : ∃ x : Cha F w, X = cha F w x := ⟨⟨X, h.chg⟩, rfl⟩
section
variable {P : Program} {F : List Nat} {w X : World} {ops : Array Oper} {o : Oper} {a : Act} {others tk : List Thing} {vals : List Value}
/-- append of one element to a slice that is owned -/
theorem app_gvq {α : Type} {E : Rep α} {e : TypeId} {xs : List α} {x : α} {cx : List Value} {v : Value} {fp : List Nat} {gb : Nat} (hgd : o.guard = none) (s y : Operand) (t : TypeId)
    (ho : o.op = .call { callee := .builtin .append, args := #[s, y], argTypes := #[t, t] }) (d : Nat) (hd : o.dst = some d) (hs : Nat.blt d a.tmps.size = true) (i : TypeInfo) (z : Value) (bytes : Nat)
    (ht : P.underlying t = some (.slice e)) (hi : P.info? e = some i) (hz : i.zero = some z) (hsize : i.size = E.size) (hby : i.bytes = bytes) (hzs : z.cells.size = E.size) (h0 : 0 < E.size)
    (hsv : a.eval s = v) (hyv : a.eval y = .slice (some ⟨gb, 0, none⟩) 1 1) (hx : ∀ W, E.own W x cx []) (h63 : xs.length + 1 ≤ maxLen) (hbytes : (xs.length + 1) * bytes ≤ 140737488355328)
    (hS : SepF F w X ([tblk gb e cx, tsl E e xs v fp] ++ others)) : wpList P ops (GvQ F w (gSl E e (xs ++ [x]) vals tk) d a.defers others) [o] a X := by
  obtain ⟨l0, ho1, hnext⟩ := hS.push0 1 rfl (Below.refl _ _) (x := x) (hx _)
  have hb : Blk X gb e cx := hS.at_ 0 rfl
  unfold wpList
  rw [if_pos (by simp [Region.wanted, hgd])]
  refine .inl (wp_append_lies _ s y t ho 0 e i z E.size bytes ht hi hz hsize hby hzs h0 v xs.length l0 hsv ho1 ⟨gb, 0, none⟩ 1 1 cx hyv (by rw [Nat.one_mul]; exact E.olen (hx X)) ?_ (E.one (hx X)) (by omega) h63 hbytes (Nat.zero_le _) _ rfl ?_)
  · have h1 := World.news_of_block hb
    simpa using h1
  · intro gg cap w4 hown1 hgrow hat hlt
    obtain ⟨fp', hs4⟩ := hnext gg cap w4 hown1 hgrow hat
    have e1 : ((a.put o.dst (.slice (some ⟨gg, 0, none⟩) (xs.length + 1) cap)).tmps.getD d undef) = .slice (some ⟨gg, 0, none⟩) (xs.length + 1) cap := by
      rw [hd]; exact put_get (by simpa [Nat.blt_eq] using hs) _
    exact ⟨rfl, by rw [hd]; rfl, _, ⟨some ⟨gg, 0, none⟩, xs.length + 1, cap, fp', e1, rfl, by show _ = _; simp⟩, hs4.tail⟩
/-- the block of the elements that are to be appended -/
def gBs (e : TypeId) (cx : List Value) : Rel := fun _ _ v ds => ∃ g, v = .slice (some ⟨g, 0, none⟩) 1 1 ∧ ds = [tblk g e cx]
theorem gBs_in {e : TypeId} {cx : List Value} {vals : List Value} {tk : List Thing} : ∃ v ds, gBs e cx vals tk v ds := ⟨_, _, 0, rfl, rfl⟩
theorem gvq_bs {e : TypeId} {cx : List Value} {g d : Nat} {df : List Deferred} {a' : Act} (h : SepF F w X others) (hg : X.heap.size = g) (hv : a'.tmps.getD d undef = .slice (some ⟨g, 0, none⟩) 1 1) (hdf : a'.defers = df) : GvQ F w (gBs e cx vals tk) d df others .normal a' (X.alloc (.cells cx.toArray e)) :=
  ⟨rfl, hdf, _, ⟨_, hv, rfl⟩, h.alloc' hg e cx⟩
end
section
variable {P : Program} {F : List Nat} {w : World} {N : Nat} {ops : Array Oper} {D : World → Prop} {rel : Nat → Option Rel} {takes : Nat → List Nat} {Q : Act → Sig → Prop} {i : Nat} {o : Oper} {rest : List Oper} {a : Act} {σ : Sig}
/-- an operation that takes what operations j and k gave -/
theorem give_op2 {R : Rel} (d j k : Nat) (hw : Region.wanted o (yielded ops a.tmps) = true) (hr : rel i = some R) (hd : o.dst = some d) (hs : Nat.blt d a.tmps.size = true) (hi : Nat.ble i N = true) (ht : takes i = [j, k]) (hjk : (j == k) = false) (hj : Nat.ble j N = true) (hk : Nat.ble k N = true)
    (tj tk : List Thing) (htj : σ j = tj) (htk : σ k = tk)
    (hin : ∃ v ds, R (o.op.operands.toList.map a.eval) (tj ++ tk) v ds)
    (h : ∀ others X, SepF F w X ((tj ++ tk) ++ others) → wpList P ops (GvQ F w (R (o.op.operands.toList.map a.eval) (tj ++ tk)) d a.defers others) [o] a X)
    (hnext : ∀ v ds, R (o.op.operands.toList.map a.eval) (tj ++ tk) v ds → wpGive P ops (GC F w N) D rel takes Q (i + 1) rest (a.put (some d) v) (sigUpd takes σ i ds)) : wpGive P ops (GC F w N) D rel takes Q i (o :: rest) a σ := by
  have e : (takes i).flatMap σ = tj ++ tk := by rw [ht, ← htj, ← htk]; simp
  refine give_op d hw hr hd (by simpa [Nat.blt_eq] using hs) (Nat.le_of_ble_eq_true hi) (by rw [ht]; exact List.nodup_cons.2 ⟨fun h => by rw [List.mem_singleton.1 h] at hjk; simp at hjk, by simp⟩) (by
      rw [ht]; intro x hx
      rcases List.mem_cons.1 hx with rfl | hx
      · exact Nat.le_of_ble_eq_true hj
      · rw [List.mem_singleton.1 hx]; exact Nat.le_of_ble_eq_true hk) ?_ ?_ ?_
  · rw [e]; exact hin
  · rw [e]; exact h
  · rw [e]; exact hnext
end
/-- append of one element, its block just laid, in a region in the order of the text -/
theorem app_list {P : Program} {F : List Nat} {w0 wr : World} {ts : List Thing} {ops : Array Oper} {rest : List Oper} {o : Oper} {a : Act} {Q : Exit → Act → World → Prop} {α : Type} {E : Rep α} {e : TypeId} {xs : List α} {x : α} {cx : List Value} {v : Value} {fp : List Nat} {m : Nat}
    (hS : SepF F w0 wr ts) (k : Nat) (hk : ts[k]? = some (tsl E e xs v fp)) (hgd : o.guard = none) (s y : Operand) (t : TypeId)
    (ho : o.op = .call { callee := .builtin .append, args := #[s, y], argTypes := #[t, t] }) (i : TypeInfo) (z : Value) (bytes : Nat)
    (ht : P.underlying t = some (.slice e)) (hi : P.info? e = some i) (hz : i.zero = some z) (hsize : i.size = E.size) (hby : i.bytes = bytes) (hzs : z.cells.size = E.size) (h0 : 0 < E.size)
    (hsv : a.eval s = v) (hyv : a.eval y = .slice (some ⟨wr.heap.size, 0, none⟩) 1 1) (hx : ∀ W, E.own W x cx []) (hm : xs.length = m) (h63 : m + 1 ≤ maxLen) (hbytes : (m + 1) * bytes ≤ 140737488355328)
    (h : ∀ g cap w' fp', SepF F w0 w' (ts.set k (tsl E e (xs ++ [x]) (.slice (some ⟨g, 0, none⟩) (m + 1) cap) fp')) → wpList P ops Q rest (a.put o.dst (.slice (some ⟨g, 0, none⟩) (m + 1) cap)) w') :
    wpList P ops Q (o :: rest) a (wr.alloc (.cells cx.toArray e)) := by
  subst hm
  obtain ⟨l0, ho1, hnext⟩ := hS.push0 k hk (W2 := wr.alloc (.cells cx.toArray e)) (below_new (Below.refl _ _) _) (x := x) (hx _)
  have hb : Blk (wr.alloc (.cells cx.toArray e)) wr.heap.size e cx := Blk.new _ _ _
  refine wpList_append_lies _ hgd s y t ho 0 e i z E.size bytes ht hi hz hsize hby hzs h0 v xs.length l0 hsv ho1 ⟨wr.heap.size, 0, none⟩ 1 1 cx hyv (by rw [Nat.one_mul]; exact E.olen (hx wr)) ?_ (E.one (hx wr)) (by omega) h63 hbytes (Nat.zero_le _) _ rfl ?_
  · have h1 := World.news_of_block hb
    simpa using h1
  · intro gg cap w4 hown1 hgrow hat hlt
    obtain ⟨fp', hs4⟩ := hnext gg cap w4 hown1 hgrow hat
    exact h gg cap w4 fp' hs4
end Mm
end Go.Proofs.Ytkhchfbpmmiopaa

/-
  Regions that draw their order and give: a store among the operations of the plan (it yields no value; the block that it stores into is taken and given back). No program in sight. No conditions.
-/
namespace Go.Proofs.Ytkhchfbpmmiopaa
open Go.RowKit
namespace Mm
section
variable {P : Program} {F : List Nat} {w : World} {N : Nat} {ops : Array Oper} {D : World → Prop} {rel : Nat → Option Rel} {takes : Nat → List Nat} {Q : Act → Sig → Prop} {i : Nat} {o : Oper} {rest : List Oper} {a : Act} {σ : Sig}
def GvQn (F : List Nat) (w : World) (r : List Thing → Prop) (df : List Deferred) (rest : List Thing) (x : Exit) (a' : Act) (w' : World) : Prop :=
  x = .normal ∧ a'.defers = df ∧ ∃ ds, r ds ∧ SepF F w w' (ds ++ rest)
theorem gvalid_none {r : Value → List Thing → Prop} {r' : List Thing → Prop} (hr : ∀ u ds, r' ds → r u ds) (hd : o.dst = none) (hw : Region.wanted o (yielded ops a.tmps) = true) (hi : i ≤ N) (hn : (takes i).Nodup) (hk : ∀ k ∈ takes i, k ≤ N)
    (h : ∀ others X, SepF F w X ((takes i).flatMap σ ++ others) → wpList P ops (GvQn F w r' a.defers others) [o] a X) : GValid P (GC F w N) takes i o a σ r := by
  intro σ' X hC hag
  have e4 : (takes i).flatMap σ' = (takes i).flatMap σ := by
    rw [List.flatMap_def, List.flatMap_def]; exact congrArg List.flatten (List.map_congr_left hag)
  have h0 : SepF F w X (sigAll N σ') := hC
  have h1 := h0.sigTake hn hk
  rw [e4] at h1
  have h2 := h _ X h1
  have fin : ∀ u w', GvQn F w r' a.defers (sigAll N (sigUpd takes σ' i [])) .normal (a.put o.dst u) w' → ∃ ds, r u ds ∧ GC F w N (sigUpd takes σ' i ds) w' := fun u w' ⟨_, _, ds, h3, h4⟩ =>
    ⟨ds, hr u ds h3, h4.permE (sigAll_upd hi)⟩
  unfold wpList at h2
  rw [if_pos hw] at h2
  have h3 : o.wp P a X (fun a' w' => GvQn F w r' a.defers (sigAll N (sigUpd takes σ' i [])) .normal a' w') (GvQn F w r' a.defers (sigAll N (sigUpd takes σ' i []))) := by
    first
      | exact h2
      | exact h2.elim id fun h => by obtain ⟨_, a', w', h, _⟩ := h; cases h
  unfold Oper.wp at h3
  generalize (execOp a.eval o).run P X = R at *
  cases R with
  | ok n w' =>
    cases n <;> simp only [Oper.upon] at h3 <;> simp only [ups] <;> first | exact fin _ _ h3 | skip
    · refine h3.mono fun e w'' he => ?_
      cases e with
      | returned v => exact ⟨v, rfl, fin _ _ he⟩
      | panicked c => exact absurd he.1 (by simp)
      | outgrown => obtain ⟨a', w', h, _⟩ := he; cases h
    · have := h3.2.1
      rw [hd] at this
      exact absurd this (by simp [Act.put])
    · exact Rows.mono h3 fun v w'' he => fin _ _ he
  | halt x w' => cases x <;> simp only [Oper.upon] at h3; exact absurd h3.1 (by simp)
/-- what a store of a struct gives: the block, written anew -/
def gSto (T : TypeId) : Rel := fun vals _ _ ds => ∃ g cs, vals = [.pointer (some ⟨g, 0, none⟩), .agg cs.toArray] ∧ ds = [tblk g T cs]
/-- a store into the block that operation k gave -/
theorem give_store (T : TypeId) (g : Nat) (cs0 cs : List Value) (k : Nat) (hw : Region.wanted o (yielded ops a.tmps) = true) (hr : rel i = some (gSto T)) (hd : o.dst = none) (hi : Nat.ble i N = true) (ht : takes i = [k]) (hk : Nat.ble k N = true)
    (htk : σ k = [tblk g T cs0]) (hv : o.op.operands.toList.map a.eval = [.pointer (some ⟨g, 0, none⟩), .agg cs.toArray])
    (h : ∀ others X, SepF F w X (tblk g T cs0 :: others) → wpList P ops (GvQn F w (fun ds => ds = [tblk g T cs]) a.defers others) [o] a X)
    (hnext : wpGive P ops (GC F w N) D rel takes Q (i + 1) rest a (sigUpd takes σ i [tblk g T cs])) : wpGive P ops (GC F w N) D rel takes Q i (o :: rest) a σ := by
  have e : (takes i).flatMap σ = [tblk g T cs0] := by rw [ht, ← htk]; simp
  refine give_rel hw hr (gvalid_none (r' := fun ds => ds = [tblk g T cs]) (fun u ds h => ?_) hd hw (Nat.le_of_ble_eq_true hi) (by rw [ht]; simp) (by rw [ht]; intro x hx; rw [List.mem_singleton.1 hx]; exact Nat.le_of_ble_eq_true hk) ?_) ?_ ?_
  · exact ⟨g, cs, hv, h⟩
  · rw [e]; exact h
  · exact ⟨undef, _, g, cs, hv, rfl⟩
  · rintro v ds ⟨g', cs', hv', rfl⟩
    have h1 := hv.symm.trans hv'
    injection h1 with h2 h3
    injection h3 with h4 _
    injection h2 with h5
    injection h5 with h6
    injection h6 with h7
    injection h4 with h8
    have h9 : cs = cs' := by simpa using congrArg Array.toList h8
    subst h7 h9
    rw [hd]
    exact hnext
end
end Mm
end Go.Proofs.Ytkhchfbpmmiopaa

/-
  Contracts of the program's and the reference's functions on words and hashes. No conditions.
-/

namespace Go.Proofs.Ytkhchfbpmmiopaa
open Go.RowKit

def Pl.ret2 (x : Int × Bool) : Ending := .returned (.tuple #[.int .i64 x.1, .bool x.2])
theorem ret_int {k : IntKind} {a b : Int} (h : a = b) : Ending.returned (.int k a) = .returned (.int k b) := by rw [h]
theorem ret_bool {a b : Bool} (h : a = b) : Ending.returned (.bool a) = .returned (.bool b) := by rw [h]

theorem within_c (n a b : Int) (w : World) :
    Calls Try.prog 43 #[.int .i64 n, .int .i64 a, .int .i64 b] w fun e w' => e = .returned (.bool (Pl.isIn n a b)) ∧ w = w' := by
  unfold Pl.isIn
  by_cases h1 : a ≤ n
  · by_cases h2 : n ≤ b
    · go_enter Try.func43, Try.ntmps43
      go_wp2
      go_ret
      exact ⟨ret_bool (by simp [*]), rfl⟩
    · go_enter Try.func43, Try.ntmps43
      go_wp2
      go_ret
      exact ⟨ret_bool (by simp [*]), rfl⟩
  · go_enter Try.func43, Try.ntmps43
    go_wp2
    go_ret
    exact ⟨ret_bool (by simp; omega), rfl⟩
theorem l1In_c (n a b : Int) (w : World) :
    Calls Try.prog 67 #[.int .i64 n, .int .i64 a, .int .i64 b] w fun e w' => e = .returned (.bool (Pl.isIn n a b)) ∧ w = w' := by
  unfold Pl.isIn
  by_cases h1 : a ≤ n
  · by_cases h2 : n ≤ b
    · go_enter Try.func67, Try.ntmps67
      go_wp2
      go_ret
      exact ⟨ret_bool (by simp [*]), rfl⟩
    · go_enter Try.func67, Try.ntmps67
      go_wp2
      go_ret
      exact ⟨ret_bool (by simp [*]), rfl⟩
  · go_enter Try.func67, Try.ntmps67
    go_wp2
    go_ret
    exact ⟨ret_bool (by simp; omega), rfl⟩
end Go.Proofs.Ytkhchfbpmmiopaa

/-
  Plain functions: logs of entries: where two are alike, the starts of the epochs, an epoch's end, up to where a follower keeps its entries. No program in sight. No conditions.
-/
namespace Go.Proofs.Ytkhchfbpmmiopaa
namespace Pl
def eqE (a b : Entry) : Bool := decide (a.Epoch = b.Epoch) && (a.Text.toList == b.Text.toList)
theorem ba_eq {s t : ByteArray} (h : s.toList = t.toList) : s = t := by
  rw [Lib.toList_data, Lib.toList_data] at h
  cases s with | mk a => cases t with | mk b => 
    congr
    exact Array.ext' (by simpa using h)
theorem eqE_iff {a b : Entry} : eqE a b = true ↔ a = b := by
  unfold eqE
  rw [Bool.and_eq_true, decide_eq_true_eq, beq_iff_eq]
  constructor
  · rintro ⟨h1, h2⟩
    cases a; cases b
    simp only at h1 h2
    rw [h1, ba_eq h2]
  · rintro rfl; exact ⟨rfl, rfl⟩
theorem eqE_no {a b : Entry} : eqE a b = false ↔ a ≠ b := by
  rw [← Bool.not_eq_true, eqE_iff]
theorem eqE_self (a : Entry) : eqE a a = true := eqE_iff.2 rfl
theorem eqE_comm (a b : Entry) : eqE a b = eqE b a := by
  rw [Bool.eq_iff_iff, eqE_iff, eqE_iff]; exact ⟨Eq.symm, Eq.symm⟩
/-- up to where two logs are alike -/
def part : List Entry → List Entry → Nat
  | a :: s, b :: t => if eqE a b = true then part s t + 1 else 0
  | [], _ => 0
  | _ :: _, [] => 0
theorem part_le : ∀ a b : List Entry, part a b ≤ a.length ∧ part a b ≤ b.length
  | [], _ => by simp [part]
  | _ :: _, [] => by simp [part]
  | x :: s, y :: t => by
    have := part_le s t
    rw [part]
    split
    · simp only [List.length_cons]; omega
    · simp only [List.length_cons]; omega
theorem part_comm : ∀ a b : List Entry, part a b = part b a
  | [], [] => rfl
  | [], _ :: _ => rfl
  | _ :: _, [] => rfl
  | x :: s, y :: t => by rw [part, part, eqE_comm, part_comm s t]
theorem part_take : ∀ a b : List Entry, a.take (part a b) = b.take (part a b)
  | [], _ => by simp [part]
  | _ :: _, [] => by simp [part]
  | x :: s, y :: t => by
    rw [part]
    split
    · rename_i h
      rw [List.take_succ_cons, List.take_succ_cons, part_take s t, eqE_iff.1 h]
    · rfl
/-- where a loop that counts has come to -/
theorem part_of : ∀ (a b : List Entry) (k : Nat), k ≤ a.length → k ≤ b.length → a.take k = b.take k → (∀ x y, a[k]? = some x → b[k]? = some y → eqE x y = false) → part a b = k
  | [], b, k, h, _, _, _ => by simp at h; subst h; simp [part]
  | _ :: _, [], k, _, h, _, _ => by simp at h; subst h; simp [part]
  | x :: s, y :: t, 0, _, _, _, h => by
    rw [part, if_neg]
    rw [h x y rfl rfl]; simp
  | x :: s, y :: t, k + 1, h1, h2, h3, h4 => by
    rw [List.take_succ_cons, List.take_succ_cons] at h3
    injection h3 with h5 h6
    rw [part, if_pos (eqE_iff.2 h5), part_of s t k (by simpa using h1) (by simpa using h2) h6 (fun u v hu hv => h4 u v (by simpa using hu) (by simpa using hv))]
theorem part_ge : ∀ (a b : List Entry) (k : Nat), k ≤ a.length → k ≤ b.length → a.take k = b.take k → k ≤ part a b
  | _, _, 0, _, _, _ => Nat.zero_le _
  | [], b, k + 1, h, _, _ => by simp at h
  | _ :: _, [], k + 1, _, h, _ => by simp at h
  | x :: s, y :: t, k + 1, h1, h2, h3 => by
    rw [List.take_succ_cons, List.take_succ_cons] at h3
    injection h3 with h5 h6
    rw [part, if_pos (eqE_iff.2 h5)]
    exact Nat.succ_le_succ (part_ge s t k (by simpa using h1) (by simpa using h2) h6)
theorem part_self (a : List Entry) : part a a = a.length := Nat.le_antisymm (part_le a a).1 (part_ge a a _ (Nat.le_refl _) (Nat.le_refl _) rfl)
theorem part_full {l c : List Entry} : part l c = c.length ↔ c <+: l := by
  constructor
  · intro h
    have h1 := part_take l c
    rw [h, List.take_length] at h1
    rw [← h1]
    exact List.take_prefix _ _
  · intro h
    have h1 := h.length_le
    refine Nat.le_antisymm (part_le l c).2 (part_ge l c _ h1 (Nat.le_refl _) ?_)
    rw [List.take_length]
    exact (List.prefix_iff_eq_take.1 h).symm
theorem take_next {α : Type} {a b : List α} {k : Nat} {x : α} (h : a.take k = b.take k) (ha : a[k]? = some x) (hb : b[k]? = some x) : a.take (k + 1) = b.take (k + 1) := by
  obtain ⟨h1, h2⟩ := List.getElem?_eq_some_iff.1 ha
  obtain ⟨h3, h4⟩ := List.getElem?_eq_some_iff.1 hb
  rw [List.take_succ_eq_append_getElem h1, List.take_succ_eq_append_getElem h3, h, h2, h4]
/-- the epochs rise -/
def Ris (l : List Entry) : Prop := ∀ (i j : Nat) (x y : Entry), l[i]? = some x → l[j]? = some y → i ≤ j → x.Epoch ≤ y.Epoch
theorem Ris.take {l : List Entry} (h : Ris l) (n : Nat) : Ris (l.take n) := fun i j x y hx hy hij => by
  rw [List.getElem?_take] at hx hy
  split at hx
  · split at hy
    · exact h i j x y hx hy hij
    · cases hy
  · cases hx
/-- how many entries, from the first on, have an epoch or a smaller one -/
def fend : List Entry → Int → Nat
  | [], _ => 0
  | x :: t, e => if x.Epoch ≤ e then fend t e + 1 else 0
theorem fend_le : ∀ (l : List Entry) (e : Int), fend l e ≤ l.length
  | [], _ => Nat.le_refl _
  | x :: t, e => by
    rw [fend]
    have := fend_le t e
    split
    · simp only [List.length_cons]; omega
    · exact Nat.zero_le _
theorem fend_in : ∀ (l : List Entry) (e : Int) (i : Nat) (x : Entry), i < fend l e → l[i]? = some x → x.Epoch ≤ e
  | [], _, i, x, h, _ => by simp [fend] at h
  | y :: t, e, i, x, h, hx => by
    rw [fend] at h
    split at h
    · rename_i hy
      cases i with
      | zero => simp at hx; rw [← hx]; exact hy
      | succ i => exact fend_in t e i x (by omega) (by simpa using hx)
    · omega
theorem fend_out : ∀ (l : List Entry) (e : Int) (x : Entry), l[fend l e]? = some x → e < x.Epoch
  | [], _, x, h => by simp at h
  | y :: t, e, x, h => by
    rw [fend] at h
    split at h
    · exact fend_out t e x (by simpa using h)
    · rename_i hy
      simp at h; rw [← h]; omega
theorem fend_of {l : List Entry} {e : Int} {k : Nat} (hk : k ≤ l.length) (h1 : ∀ i x, i < k → l[i]? = some x → x.Epoch ≤ e) (h2 : ∀ x, l[k]? = some x → e < x.Epoch) : fend l e = k := by
  rcases Nat.lt_trichotomy (fend l e) k with h | h | h
  · have hx := List.getElem?_eq_getElem (show fend l e < l.length by omega)
    have := fend_out l e _ hx
    have := h1 _ _ h hx
    omega
  · exact h
  · have := fend_le l e
    have hx := List.getElem?_eq_getElem (show k < l.length by omega)
    have := fend_in l e k _ h hx
    have := h2 _ hx
    omega
/-- in a log whose epochs rise, the entries ahead of an epoch's end are those with that epoch or a smaller one -/
theorem fend_iff {l : List Entry} (hl : Ris l) {e : Int} {i : Nat} {x : Entry} (hx : l[i]? = some x) : i < fend l e ↔ x.Epoch ≤ e := by
  constructor
  · exact fun h => fend_in l e i x h hx
  · intro h
    apply Classical.byContradiction
    intro hn
    have hi := (List.getElem?_eq_some_iff.1 hx).1
    have hy := List.getElem?_eq_getElem (show fend l e < l.length by omega)
    have h1 := fend_out l e _ hy
    have h2 := hl _ _ _ _ hy hx (by omega)
    omega
theorem fend_mono {l : List Entry} (_hl : Ris l) {e f : Int} (h : e ≤ f) : fend l e ≤ fend l f := by
  apply Classical.byContradiction
  intro hn
  have := fend_le l e
  have hy := List.getElem?_eq_getElem (show fend l f < l.length by omega)
  have h1 := fend_out l f _ hy
  have h2 := fend_in l e _ _ (show fend l f < fend l e by omega) hy
  omega
theorem fend_count {l : List Entry} (hl : Ris l) (e : Int) : l.countP (fun x => decide (x.Epoch ≤ e)) = fend l e := by
  induction l with
  | nil => rfl
  | cons y t ih =>
    have ht : Ris t := fun i j x z hx hz hij => hl (i + 1) (j + 1) x z (by simpa using hx) (by simpa using hz) (by omega)
    rw [fend, List.countP_cons, ih ht]
    by_cases h : y.Epoch ≤ e
    · rw [if_pos h, if_pos (by simpa using h)]
    · rw [if_neg h, if_neg (by simpa using h)]
      cases t with
      | nil => rfl
      | cons z s =>
        rw [fend, if_neg]
        have := hl 0 1 y z rfl rfl (by omega)
        omega
def zEn : Entry := ⟨0, ByteArray.empty⟩
def epAt (l : List Entry) (i : Nat) : Int := (l.getD i zEn).Epoch
theorem epAt_of {l : List Entry} {i : Nat} {x : Entry} (h : l[i]? = some x) : epAt l i = x.Epoch := by
  unfold epAt; rw [List.getD_eq_getElem?_getD, h]; rfl
/-- an epoch begins here -/
def isSt (l : List Entry) (i : Nat) : Bool := decide (i = 0) || (epAt l (i - 1) != epAt l i)
def startsTo (l : List Entry) : Nat → List Start
  | 0 => []
  | k + 1 => if isSt l k = true then startsTo l k ++ [⟨epAt l k, k⟩] else startsTo l k
def starts (l : List Entry) : List Start := startsTo l l.length
theorem startsTo_len (l : List Entry) : ∀ k, (startsTo l k).length ≤ k
  | 0 => Nat.le_refl _
  | k + 1 => by
    have := startsTo_len l k
    rw [startsTo]
    split
    · simp only [List.length_append, List.length_singleton]; omega
    · omega
theorem startsTo_mem {l : List Entry} {s : Start} : ∀ {k}, s ∈ startsTo l k ↔ ∃ i, i < k ∧ isSt l i = true ∧ s = ⟨epAt l i, i⟩
  | 0 => by simp [startsTo]
  | k + 1 => by
    rw [startsTo]
    constructor
    · intro h
      split at h
      · rename_i hs
        rcases List.mem_append.1 h with h | h
        · obtain ⟨i, h1, h2⟩ := startsTo_mem.1 h
          exact ⟨i, by omega, h2⟩
        · exact ⟨k, by omega, hs, List.mem_singleton.1 h⟩
      · obtain ⟨i, h1, h2⟩ := startsTo_mem.1 h
        exact ⟨i, by omega, h2⟩
    · rintro ⟨i, h1, h2, h3⟩
      by_cases hi : i = k
      · subst hi
        rw [if_pos h2]
        exact List.mem_append_right _ (by rw [h3]; simp)
      · have := startsTo_mem.2 ⟨i, show i < k by omega, h2, h3⟩
        split
        · exact List.mem_append_left _ this
        · exact this
/-- the first entry with its epoch -/
theorem isSt_first {l : List Entry} (hl : Ris l) {i j : Nat} {x y : Entry} (hx : l[i]? = some x) (hs : isSt l i = true) (hy : l[j]? = some y) (he : y.Epoch = x.Epoch) : i ≤ j := by
  apply Classical.byContradiction
  intro hn
  have hi := (List.getElem?_eq_some_iff.1 hx).1
  have hz := List.getElem?_eq_getElem (show i - 1 < l.length by omega)
  unfold isSt at hs
  rw [epAt_of hx, epAt_of hz, Bool.or_eq_true, decide_eq_true_eq, bne_iff_ne] at hs
  have h1 := hl _ _ _ _ hy hz (by omega)
  have h2 := hl _ _ _ _ hz hx (by omega)
  omega
theorem isSt_exists {l : List Entry} {j : Nat} {y : Entry} (hy : l[j]? = some y) : ∃ i x, l[i]? = some x ∧ isSt l i = true ∧ x.Epoch = y.Epoch ∧ i ≤ j := by
  induction j generalizing y with
  | zero => exact ⟨0, y, hy, rfl, rfl, Nat.le_refl _⟩
  | succ j ih =>
    have hj := (List.getElem?_eq_some_iff.1 hy).1
    have hz := List.getElem?_eq_getElem (show j < l.length by omega)
    by_cases he : (l[j]'(by omega)).Epoch = y.Epoch
    · obtain ⟨i, x, h1, h2, h3, h4⟩ := ih hz
      exact ⟨i, x, h1, h2, h3.trans he, by omega⟩
    · refine ⟨j + 1, y, hy, ?_, rfl, Nat.le_refl _⟩
      unfold isSt
      rw [epAt_of hy, Nat.add_sub_cancel, epAt_of hz]
      simp [he]
theorem starts_ep {l : List Entry} {e : Int} : (∃ s, s ∈ starts l ∧ s.Epoch = e) ↔ ∃ (i : Nat) (x : Entry), l[i]? = some x ∧ x.Epoch = e := by
  constructor
  · rintro ⟨s, hs, rfl⟩
    obtain ⟨i, h1, h2, rfl⟩ := startsTo_mem.1 hs
    exact ⟨i, _, List.getElem?_eq_getElem h1, (epAt_of (List.getElem?_eq_getElem h1)).symm⟩
  · rintro ⟨i, x, hx, rfl⟩
    obtain ⟨j, y, h1, h2, h3, _⟩ := isSt_exists hx
    exact ⟨⟨epAt l j, j⟩, startsTo_mem.2 ⟨j, (List.getElem?_eq_some_iff.1 h1).1, h2, rfl⟩, by rw [epAt_of h1]; exact h3⟩
theorem startsTo_lt (l : List Entry) : ∀ k, (startsTo l k).Pairwise (fun s t => s.At < t.At)
  | 0 => List.Pairwise.nil
  | k + 1 => by
    rw [startsTo]
    split
    · refine List.pairwise_append.2 ⟨startsTo_lt l k, List.pairwise_singleton _ _, fun a ha b hb => ?_⟩
      obtain ⟨i, h1, _, rfl⟩ := startsTo_mem.1 ha
      rw [List.mem_singleton.1 hb]
      show (i : Int) < k
      omega
    · exact startsTo_lt l k
theorem startsTo_ep {l : List Entry} (hl : Ris l) {k : Nat} (hk : k ≤ l.length) : (startsTo l k).Pairwise (fun s t => s.Epoch < t.Epoch) := by
  refine (startsTo_lt l k).imp_of_mem fun {s t} hs ht h => ?_
  obtain ⟨i, h1, h2, rfl⟩ := startsTo_mem.1 hs
  obtain ⟨j, h3, h4, rfl⟩ := startsTo_mem.1 ht
  have hij : i < j := by have : (i : Int) < j := h; omega
  have hx := List.getElem?_eq_getElem (show i < l.length by omega)
  have hy := List.getElem?_eq_getElem (show j < l.length by omega)
  show epAt l i < epAt l j
  rw [epAt_of hx, epAt_of hy]
  have h5 := hl _ _ _ _ hx hy (by omega)
  rcases Int.lt_or_eq_of_le h5 with h | h
  · exact h
  · have := isSt_first hl hy h4 hx h; omega
/-- the start behind an epoch's is the epoch's end -/
theorem starts_next {l : List Entry} (hl : Ris l) {k : Nat} {s : Start} (hs : (starts l)[k]? = some s) : (∀ t, (starts l)[k + 1]? = some t → t.At = fend l s.Epoch) ∧ ((starts l).length ≤ k + 1 → l.length = fend l s.Epoch) := by
  have hm := List.mem_of_getElem? hs
  obtain ⟨i, h1, h2, rfl⟩ := startsTo_mem.1 hm
  have hx := List.getElem?_eq_getElem h1
  have hp : (starts l).Pairwise (fun s t => s.Epoch < t.Epoch) := startsTo_ep hl (Nat.le_refl l.length)
  have hk := (List.getElem?_eq_some_iff.1 hs).1
  -- every start with a greater epoch comes later
  have later : ∀ (j : Nat) (y : Entry), l[j]? = some y → l[i].Epoch < y.Epoch → ∃ m t, k < m ∧ (starts l)[m]? = some t ∧ t.At ≤ j ∧ t.Epoch = y.Epoch := by
    intro j y hy hlt
    obtain ⟨j', y', g1, g2, g3, g4⟩ := isSt_exists hy
    have hmem : (⟨epAt l j', j'⟩ : Start) ∈ starts l := startsTo_mem.2 ⟨j', (List.getElem?_eq_some_iff.1 g1).1, g2, rfl⟩
    obtain ⟨m, hm⟩ := List.mem_iff_getElem?.1 hmem
    refine ⟨m, _, ?_, hm, by show (j' : Int) ≤ j; omega, by show epAt l j' = _; rw [epAt_of g1, g3]⟩
    have hml := (List.getElem?_eq_some_iff.1 hm)
    apply Classical.byContradiction
    intro hn
    obtain ⟨hk1, hk2⟩ := List.getElem?_eq_some_iff.1 hs
    have hle : (starts l)[m].Epoch ≤ (starts l)[k].Epoch := by
      rcases Nat.lt_or_ge m k with h | h
      · exact Int.le_of_lt (List.pairwise_iff_getElem.1 hp m k hml.1 hk1 h)
      · have : m = k := by omega
        subst this; exact Int.le_refl _
    rw [hml.2, hk2] at hle
    have e1 : epAt l j' ≤ epAt l i := hle
    rw [epAt_of g1, epAt_of hx] at e1
    omega
  constructor
  · intro t ht
    obtain ⟨hk1, hk2⟩ := List.getElem?_eq_some_iff.1 ht
    obtain ⟨hk3, hk4⟩ := List.getElem?_eq_some_iff.1 hs
    obtain ⟨j, g1, g2, rfl⟩ := startsTo_mem.1 (List.mem_of_getElem? ht)
    have hy := List.getElem?_eq_getElem g1
    have hlt := List.pairwise_iff_getElem.1 hp k (k + 1) hk3 hk1 (by omega)
    rw [hk2, hk4] at hlt
    have hlt' : epAt l i < epAt l j := hlt
    rw [epAt_of hx, epAt_of hy] at hlt'
    show (j : Int) = fend l (epAt l i)
    rw [epAt_of hx]
    congr 1
    symm
    refine fend_of (by omega) (fun a z ha hz => ?_) (fun z hz => by rw [hy] at hz; injection hz with hz; rw [← hz]; exact hlt')
    apply Classical.byContradiction
    intro hn
    obtain ⟨m, t, q1, q2, q3, q4⟩ := later a z hz (by omega)
    have hat : (starts l).Pairwise (fun s t => s.At < t.At) := startsTo_lt l l.length
    obtain ⟨hq1, hq2⟩ := List.getElem?_eq_some_iff.1 q2
    have : (starts l)[k + 1].At ≤ (starts l)[m].At := by
      rcases Nat.lt_or_ge (k + 1) m with h | h
      · exact Int.le_of_lt (List.pairwise_iff_getElem.1 hat (k + 1) m hk1 hq1 h)
      · have : m = k + 1 := by omega
        subst this; exact Int.le_refl _
    rw [hq2, hk2] at this
    have this' : (j : Int) ≤ t.At := this
    omega
  · intro hlen
    show l.length = fend l (epAt l i)
    rw [epAt_of hx]
    symm
    refine fend_of (Nat.le_refl _) (fun a z ha hz => ?_) (fun z hz => by simp at hz)
    apply Classical.byContradiction
    intro hn
    obtain ⟨m, t, q1, q2, q3, q4⟩ := later a z hz (by omega)
    have := (List.getElem?_eq_some_iff.1 q2).1
    omega
def hasEp (l : List Entry) (e : Int) : Bool := l.any (fun x => x.Epoch == e)
theorem hasEp_iff {l : List Entry} {e : Int} : hasEp l e = true ↔ ∃ (i : Nat) (x : Entry), l[i]? = some x ∧ x.Epoch = e := by
  unfold hasEp
  rw [List.any_eq_true]
  constructor
  · rintro ⟨x, hx, he⟩
    obtain ⟨i, hi⟩ := List.mem_iff_getElem?.1 hx
    exact ⟨i, x, hi, by simpa using he⟩
  · rintro ⟨i, x, hx, he⟩
    exact ⟨x, List.mem_of_getElem? hx, by simpa using he⟩
/-- up to where a follower keeps its entries -/
def ffind (a b : List Entry) : Nat := match (starts a).reverse.find? (fun s => hasEp b s.Epoch) with
  | none => 0
  | some s => min (fend a s.Epoch) (fend b s.Epoch)
theorem ffind_le (a b : List Entry) : ffind a b ≤ a.length ∧ ffind a b ≤ b.length := by
  unfold ffind
  split
  · omega
  · rename_i s _
    have := fend_le a s.Epoch
    have := fend_le b s.Epoch
    omega
end Pl
end Go.Proofs.Ytkhchfbpmmiopaa

/-
  Plain functions: logs with one history: a follower keeps what is the leader's. No program in sight. No conditions.
-/
namespace Go.Proofs.Ytkhchfbpmmiopaa
namespace Pl
theorem hasEp_of {l : List Entry} {i : Nat} {x : Entry} (h : l[i]? = some x) : hasEp l x.Epoch = true := hasEp_iff.2 ⟨i, x, h, rfl⟩
/-- what a search has found -/
theorem ffind_spec {a b : List Entry} (ha : Ris a) : (ffind a b = 0 ∧ ∀ (i : Nat) (x : Entry), a[i]? = some x → hasEp b x.Epoch = false) ∨
    ∃ e, hasEp a e = true ∧ hasEp b e = true ∧ ffind a b = min (fend a e) (fend b e) ∧ ∀ (i : Nat) (x : Entry), a[i]? = some x → hasEp b x.Epoch = true → x.Epoch ≤ e := by
  unfold ffind
  cases hf : (starts a).reverse.find? (fun s => hasEp b s.Epoch) with
  | none =>
    left
    refine ⟨rfl, fun i x hx => ?_⟩
    obtain ⟨s, hs, he⟩ := starts_ep.2 ⟨i, x, hx, rfl⟩
    have := List.find?_eq_none.1 hf s (List.mem_reverse.2 hs)
    rw [he] at this
    simpa using this
  | some s =>
    right
    obtain ⟨h1, as1, bs1, h2, h3⟩ := List.find?_eq_some_iff_append.1 hf
    have h4 : starts a = bs1.reverse ++ s :: as1.reverse := by
      have := congrArg List.reverse h2
      simpa using this
    have hmem : s ∈ starts a := by rw [h4]; simp
    refine ⟨s.Epoch, hasEp_iff.2 (starts_ep.1 ⟨s, hmem, rfl⟩), h1, rfl, fun i x hx hb => ?_⟩
    obtain ⟨t, ht, he⟩ := starts_ep.2 ⟨i, x, hx, rfl⟩
    have hp : (starts a).Pairwise (fun s t => s.Epoch < t.Epoch) := startsTo_ep ha (Nat.le_refl _)
    rw [h4] at ht hp
    rcases List.mem_append.1 ht with h | h
    · rw [← he]
      exact Int.le_of_lt ((List.pairwise_append.1 hp).2.2 t h s (by simp))
    · rcases List.mem_cons.1 h with h | h
      · rw [← he, h]; exact Int.le_refl _
      · have := h3 t (List.mem_reverse.1 h)
        rw [he, hb] at this
        simp at this
theorem fend_pos {l : List Entry} (hl : Ris l) {e : Int} (h : hasEp l e = true) : ∃ (i : Nat) (x : Entry), l[i]? = some x ∧ x.Epoch = e ∧ isSt l i = true ∧ i < fend l e := by
  obtain ⟨j, y, hy, rfl⟩ := hasEp_iff.1 h
  obtain ⟨i, x, h1, h2, h3, h4⟩ := isSt_exists hy
  exact ⟨i, x, h1, h3, h2, (fend_iff hl h1).2 (by omega)⟩
/-- all entries of a log are the history's of their epochs -/
def Hist (H : Int → List Entry) (l : List Entry) : Prop := ∀ (i : Nat) (x : Entry), l[i]? = some x → l.take (i + 1) = (H x.Epoch).take (i + 1)
theorem hist_same {H : Int → List Entry} {a b : List Entry} (ha : Hist H a) (hb : Hist H b) {i : Nat} {x y : Entry} (hx : a[i]? = some x) (hy : b[i]? = some y) (he : x.Epoch = y.Epoch) : a.take (i + 1) = b.take (i + 1) := by
  rw [ha i x hx, hb i y hy, he]
theorem take_get {α : Type} {a b : List α} {n i : Nat} (h : a.take n = b.take n) (hi : i < n) : a[i]? = b[i]? := by
  have := congrArg (·[i]?) h
  simpa [List.getElem?_take, hi] using this
theorem hist_start {H : Int → List Entry} {a b : List Entry} (ha : Hist H a) (hb : Hist H b) (hra : Ris a) (hrb : Ris b) {i j : Nat} {x y : Entry} (hx : a[i]? = some x) (hy : b[j]? = some y) (he : x.Epoch = y.Epoch) (hi : isSt a i = true) (hj : isSt b j = true) : i = j := by
  have h1 := ha i x hx
  have h2 := hb j y hy
  rcases Nat.lt_trichotomy i j with h | h | h
  · have h3 := take_get h2 (show i < j + 1 by omega)
    have h4 := take_get h1 (show i < i + 1 by omega)
    rw [he] at h4
    rw [← h4, hx] at h3
    have := isSt_first hrb hy hj h3 he
    omega
  · exact h
  · have h3 := take_get h1 (show j < i + 1 by omega)
    have h4 := take_get h2 (show j < j + 1 by omega)
    rw [he, ← h4, hy] at h3
    have := isSt_first hra hx hi h3 he.symm
    omega
/-- up to there the two logs are alike -/
theorem ffind_take {H : Int → List Entry} {a b : List Entry} (ha : Hist H a) (hb : Hist H b) (hra : Ris a) (hrb : Ris b) : a.take (ffind a b) = b.take (ffind a b) := by
  rcases ffind_spec (b := b) hra with ⟨h, _⟩ | ⟨e, h1, h2, h3, _⟩
  · rw [h]; rfl
  · obtain ⟨i, x, g1, g2, g3, g4⟩ := fend_pos hra h1
    obtain ⟨j, y, k1, k2, k3, k4⟩ := fend_pos hrb h2
    have hij := hist_start ha hb hra hrb g1 k1 (g2.trans k2.symm) g3 k3
    subst hij
    rw [h3]
    obtain ⟨m, hm⟩ : ∃ m, min (fend a e) (fend b e) = m + 1 := ⟨min (fend a e) (fend b e) - 1, by omega⟩
    rw [hm]
    have l1 := fend_le a e
    have l2 := fend_le b e
    have e1 := List.getElem?_eq_getElem (show m < a.length by omega)
    have e2 := List.getElem?_eq_getElem (show m < b.length by omega)
    refine hist_same ha hb e1 e2 ?_
    have q1 := fend_in a e m _ (by omega) e1
    have q2 := fend_in b e m _ (by omega) e2
    have q3 := hra _ _ _ _ g1 e1 (by omega)
    have q4 := hrb _ _ _ _ k1 e2 (by omega)
    omega
/-- what begins both logs is kept -/
theorem ffind_ge {a b c : List Entry} (hra : Ris a) (hrb : Ris b) (ha : c <+: a) (hb : c <+: b) : c.length ≤ ffind a b := by
  cases hc : c.length with
  | zero => exact Nat.zero_le _
  | succ n =>
    have hz := List.getElem?_eq_getElem (show n < c.length by omega)
    have ha' := (List.prefix_iff_getElem?.1 ha) n (by omega)
    have hb' := (List.prefix_iff_getElem?.1 hb) n (by omega)
    have hbe := hasEp_of hb'
    rcases ffind_spec (b := b) hra with ⟨_, h⟩ | ⟨e, h1, h2, h3, h4⟩
    · rw [h n _ ha'] at hbe; cases hbe
    · have := h4 n _ ha' hbe
      rw [h3]
      have g1 := (fend_iff hra ha').2 this
      have g2 := (fend_iff hrb hb').2 this
      omega
theorem ffind_prefix {a b : List Entry} (hra : Ris a) (hrb : Ris b) (h : a <+: b) : ffind a b = a.length :=
  Nat.le_antisymm (ffind_le a b).1 (ffind_ge hra hrb (List.prefix_refl _) h)
/-- what a follower has behind a fetch -/
def fetchL (own other : List Entry) : List Entry := own.take (ffind own other) ++ (other[ffind own other]?).toList
theorem fetchL_take {H : Int → List Entry} {a b : List Entry} (ha : Hist H a) (hb : Hist H b) (hra : Ris a) (hrb : Ris b) : fetchL a b = b.take (ffind a b + 1) := by
  unfold fetchL
  rw [ffind_take ha hb hra hrb]
  cases h : b[ffind a b]? with
  | none =>
    have := List.getElem?_eq_none_iff.1 h
    rw [List.take_of_length_le (show b.length ≤ ffind a b + 1 by omega), List.take_of_length_le this]
    simp
  | some x =>
    obtain ⟨h1, h2⟩ := List.getElem?_eq_some_iff.1 h
    rw [List.take_succ_eq_append_getElem h1, h2]
    rfl
theorem Hist.take {H : Int → List Entry} {l : List Entry} (h : Hist H l) (n : Nat) : Hist H (l.take n) := fun i x hx => by
  rw [List.getElem?_take] at hx
  split at hx
  · rename_i hi
    rw [List.take_take, Nat.min_eq_left (by omega)]
    exact h i x hx
  · cases hx
def entOk (x : Entry) : Bool := isIn x.Epoch 1 1000 && decide (x.Text.size ≤ 20)
structure LogOk (l : List Entry) : Prop where
  ris : Ris l
  len : l.length ≤ 40
  ok : ∀ (i : Nat) (x : Entry), l[i]? = some x → entOk x = true
theorem LogOk.take {l : List Entry} (h : LogOk l) (n : Nat) : LogOk (l.take n) := ⟨h.ris.take n, by rw [List.length_take]; have := h.len; omega, fun i x hx => by
  rw [List.getElem?_take] at hx
  split at hx
  · exact h.ok i x hx
  · cases hx⟩
theorem LogOk.nil : LogOk [] := ⟨fun i j x y hx => by simp at hx, Nat.zero_le _, fun i x hx => by simp at hx⟩
theorem LogOk.pre {l c : List Entry} (h : LogOk l) (hc : c <+: l) : LogOk c := by
  rw [List.prefix_iff_eq_take.1 hc]; exact h.take _
def lastEp (l : List Entry) : Int := if l.length = 0 then 0 else epAt l (l.length - 1)
theorem LogOk.snoc {l : List Entry} (h : LogOk l) (hl : l.length ≠ 40) {x : Entry} (hx : entOk x = true) (hle : lastEp l ≤ x.Epoch) : LogOk (l ++ [x]) := by
  have hlen := h.len
  refine ⟨fun i j y z hy hz hij => ?_, by simp; omega, fun i y hy => ?_⟩
  · rcases Nat.lt_or_ge j l.length with hj | hj
    · rw [List.getElem?_append_left hj] at hz
      rw [List.getElem?_append_left (by omega)] at hy
      exact h.ris i j y z hy hz hij
    · have hj2 := (List.getElem?_eq_some_iff.1 hz).1
      have : j = l.length := by simp at hj2; omega
      subst this
      rw [List.getElem?_append_right (Nat.le_refl _)] at hz
      simp at hz
      subst hz
      rcases Nat.lt_or_ge i l.length with hi | hi
      · rw [List.getElem?_append_left hi] at hy
        have hq := List.getElem?_eq_getElem (show l.length - 1 < l.length by omega)
        have := h.ris _ _ _ _ hy hq (by omega)
        unfold lastEp at hle
        rw [if_neg (by omega), epAt_of hq] at hle
        omega
      · have : i = l.length := by omega
        subst this
        rw [List.getElem?_append_right (Nat.le_refl _)] at hy
        simp at hy
        rw [hy]; exact Int.le_refl _
  · rcases Nat.lt_or_ge i l.length with hi | hi
    · rw [List.getElem?_append_left hi] at hy
      exact h.ok i y hy
    · have hj2 := (List.getElem?_eq_some_iff.1 hy).1
      have : i = l.length := by simp at hj2; omega
      subst this
      rw [List.getElem?_append_right (Nat.le_refl _)] at hy
      simp at hy
      rw [← hy]; exact hx
theorem Hist.snoc {H : Int → List Entry} {l : List Entry} (h : Hist H l) {x : Entry} (hx : (H x.Epoch).take (l.length + 1) = l ++ [x]) : Hist H (l ++ [x]) := fun i y hy => by
  rcases Nat.lt_or_ge i l.length with hi | hi
  · rw [List.getElem?_append_left hi] at hy
    rw [List.take_append_of_le_length (by omega)]
    exact h i y hy
  · have hj2 := (List.getElem?_eq_some_iff.1 hy).1
    have : i = l.length := by simp at hj2; omega
    subst this
    rw [List.getElem?_append_right (Nat.le_refl _)] at hy
    simp at hy
    subst hy
    rw [hx, List.take_of_length_le (by simp)]
end Pl
end Go.Proofs.Ytkhchfbpmmiopaa

/-
  Plain functions: replication: the steps, what every state that is played meets. No program in sight. No conditions.
-/
namespace Go.Proofs.Ytkhchfbpmmiopaa
namespace Pl
def logAt (r : Repl) (k : Int) : List Entry := r.Logs.getD k.toNat []
def downAt (r : Repl) (k : Int) : Bool := r.Down.getD k.toNat false
theorem logAt_of {r : Repl} {k : Int} {l : List Entry} (h : r.Logs[k.toNat]? = some l) : logAt r k = l := by
  unfold logAt; rw [List.getD_eq_getElem?_getD, h]; rfl
theorem downAt_of {r : Repl} {k : Int} {b : Bool} (h : r.Down[k.toNat]? = some b) : downAt r k = b := by
  unfold downAt; rw [List.getD_eq_getElem?_getD, h]; rfl
def hasI (l : List Int) (k : Int) : Bool := l.any (fun x => x == k)
theorem hasI_iff {l : List Int} {k : Int} : hasI l k = true ↔ k ∈ l := by
  unfold hasI; rw [List.any_eq_true]
  exact ⟨fun ⟨x, hx, he⟩ => by rw [← beq_iff_eq.1 he]; exact hx, fun h => ⟨k, h, by simp⟩⟩
/-- how many entries all nodes of a list have as the leader has them, no more than so many -/
def certF (r : Repl) (n : Nat) (l : List Int) : Nat := l.foldl (fun n k => min n (part (logAt r r.Leader) (logAt r k))) n
def certain (r : Repl) : Nat := certF r (logAt r r.Leader).length r.InSync
theorem certF_snoc (r : Repl) (n : Nat) (l : List Int) (k : Int) : certF r n (l ++ [k]) = min (certF r n l) (part (logAt r r.Leader) (logAt r k)) := by
  unfold certF; rw [List.foldl_append]; rfl
theorem certF_le (r : Repl) : ∀ (l : List Int) (n : Nat), certF r n l ≤ n ∧ ∀ k, k ∈ l → certF r n l ≤ part (logAt r r.Leader) (logAt r k)
  | [], n => ⟨Nat.le_refl _, fun k h => by cases h⟩
  | k :: t, n => by
    have h := certF_le r t (min n (part (logAt r r.Leader) (logAt r k)))
    show certF r (min n _) t ≤ n ∧ ∀ j, j ∈ k :: t → certF r (min n _) t ≤ _
    refine ⟨by omega, fun j hj => ?_⟩
    rcases List.mem_cons.1 hj with rfl | hj
    · omega
    · exact h.2 j hj
theorem certF_ge (r : Repl) : ∀ (l : List Int) (n m : Nat), m ≤ n → (∀ k, k ∈ l → m ≤ part (logAt r r.Leader) (logAt r k)) → m ≤ certF r n l
  | [], n, m, h, _ => h
  | k :: t, n, m, h, hk => certF_ge r t (min n (part (logAt r r.Leader) (logAt r k))) m (by have := hk k (by simp); omega) (fun j hj => hk j (by simp [hj]))
/-- the start does not matter, where the leader is in the list -/
theorem certF_start (r : Repl) {l : List Int} (hl : r.Leader ∈ l) {n : Nat} (hn : (logAt r r.Leader).length ≤ n) : certF r n l = certF r (logAt r r.Leader).length l := by
  have h1 := certF_le r l n
  have h2 := certF_le r l (logAt r r.Leader).length
  have h3 := h1.2 _ hl
  rw [part_self] at h3
  exact Nat.le_antisymm (certF_ge r l _ _ h3 h1.2) (certF_ge r l _ _ (by omega) h2.2)
def rfetch (r : Repl) (k : Int) : Repl := { r with Logs := r.Logs.set k.toNat (fetchL (logAt r k) (logAt r r.Leader)) }
def outI (l : List Int) (k : Int) : List Int := l.filter (fun x => x != k)
def insI (l : List Int) (k : Int) : List Int := l.filter (fun x => decide (x < k)) ++ k :: l.filter (fun x => decide (k < x))
def sameLog (r : Repl) (k : Int) : Bool := decide ((logAt r k).length = (logAt r r.Leader).length) && decide (part (logAt r k) (logAt r r.Leader) = (logAt r r.Leader).length)
theorem sameLog_iff {r : Repl} {k : Int} : sameLog r k = true ↔ logAt r k = logAt r r.Leader := by
  unfold sameLog
  rw [Bool.and_eq_true, decide_eq_true_eq, decide_eq_true_eq]
  constructor
  · rintro ⟨h1, h2⟩
    have := part_full.1 h2
    exact (this.eq_of_length h1.symm).symm
  · intro h
    rw [h]; exact ⟨rfl, part_self _⟩
def rdo (r : Repl) (s : ReplStep) : Repl × Bool :=
  if s.Kind = 1 then
    if s.Node = 0 ∧ downAt r r.Leader = false ∧ s.Text.size ≤ 20 ∧ (logAt r r.Leader).length ≠ 40 ∧ lastEp (logAt r r.Leader) ≤ r.Epoch then
      ({ r with Logs := r.Logs.set r.Leader.toNat (logAt r r.Leader ++ [⟨r.Epoch, s.Text⟩]) }, true) else (r, false)
  else if s.Text.size ≠ 0 ∨ s.Node < 0 ∨ (r.Logs.length : Int) ≤ s.Node then (r, false)
  else if s.Kind = 2 then (if s.Node ≠ r.Leader ∧ downAt r r.Leader = false ∧ downAt r s.Node = false then (rfetch r s.Node, true) else (r, false))
  else if s.Kind = 3 then (if hasI r.InSync s.Node = true ∧ s.Node ≠ r.Leader ∧ downAt r r.Leader = false then ({ r with InSync := outI r.InSync s.Node }, true) else (r, false))
  else if s.Kind = 4 then (if hasI r.InSync s.Node = false ∧ downAt r r.Leader = false ∧ sameLog r s.Node = true then ({ r with InSync := insI r.InSync s.Node }, true) else (r, false))
  else if s.Kind = 5 then (if downAt r s.Node = false then ({ r with Down := r.Down.set s.Node.toNat true }, true) else (r, false))
  else if s.Kind = 6 then (if downAt r s.Node = true then ({ r with Down := r.Down.set s.Node.toNat false }, true) else (r, false))
  else if s.Kind = 7 then (if hasI r.InSync s.Node = true ∧ downAt r s.Node = false ∧ r.Epoch < 1000 then ({ r with Leader := s.Node, Epoch := r.Epoch + 1 }, true) else (r, false))
  else (r, false)
def rcert (r : Repl) : Repl := { r with Certain := if r.Certain.length < certain r then (logAt r r.Leader).take (certain r) else r.Certain }
def rstep (r : Repl) (s : ReplStep) : Repl × Bool := if (rdo r s).2 = true then (rcert (rdo r s).1, true) else (r, false)
/-- what a step asks of a state: what isRepl tells -/
structure RW (r : Repl) : Prop where
  n1 : 1 ≤ r.Logs.length
  n5 : r.Logs.length ≤ 5
  down : r.Down.length = r.Logs.length
  lead : 0 ≤ r.Leader ∧ r.Leader < r.Logs.length
  epoch : 1 ≤ r.Epoch ∧ r.Epoch ≤ 1000
  sync : r.InSync.Pairwise (· < ·)
  syncIn : ∀ k, k ∈ r.InSync → 0 ≤ k ∧ k < r.Logs.length
  leadIn : r.Leader ∈ r.InSync
  logs : ∀ (k : Nat) (l : List Entry), r.Logs[k]? = some l → LogOk l
  cert : ∀ k, k ∈ r.InSync → r.Certain <+: logAt r k
theorem RW.at_ {r : Repl} (_h : RW r) {k : Int} (h0 : 0 ≤ k) (h1 : k < r.Logs.length) : r.Logs[k.toNat]? = some (logAt r k) := by
  have hx := List.getElem?_eq_getElem (show k.toNat < r.Logs.length by omega)
  rw [logAt_of hx]; exact hx
theorem RW.ok {r : Repl} (h : RW r) {k : Int} (h0 : 0 ≤ k) (h1 : k < r.Logs.length) : LogOk (logAt r k) := h.logs _ _ (h.at_ h0 h1)
theorem RW.dat {r : Repl} (h : RW r) {k : Int} (h0 : 0 ≤ k) (h1 : k < r.Logs.length) : r.Down[k.toNat]? = some (downAt r k) := by
  have hx := List.getElem?_eq_getElem (show k.toNat < r.Down.length by have := h.down; omega)
  rw [downAt_of hx]; exact hx
theorem RW.certain_ge {r : Repl} (h : RW r) : r.Certain.length ≤ certain r := by
  have hc := h.cert _ h.leadIn
  refine certF_ge r _ _ _ hc.length_le fun k hk => ?_
  have h1 := List.prefix_iff_eq_take.1 hc
  have h2 := List.prefix_iff_eq_take.1 (h.cert k hk)
  exact part_ge _ _ _ hc.length_le (h.cert k hk).length_le (by rw [← h1, ← h2])
theorem mem_outI {l : List Int} {k x : Int} : x ∈ outI l k ↔ x ∈ l ∧ x ≠ k := by unfold outI; rw [List.mem_filter, bne_iff_ne]
theorem mem_insI {l : List Int} {k x : Int} : x ∈ insI l k ↔ x = k ∨ (x ∈ l ∧ x ≠ k) := by
  unfold insI
  rw [List.mem_append, List.mem_cons, List.mem_filter, List.mem_filter, decide_eq_true_eq, decide_eq_true_eq]
  constructor
  · rintro (⟨h1, h2⟩ | h | ⟨h1, h2⟩)
    · exact .inr ⟨h1, by omega⟩
    · exact .inl h
    · exact .inr ⟨h1, by omega⟩
  · rintro (h | ⟨h1, h2⟩)
    · exact .inr (.inl h)
    · rcases Int.lt_or_gt_of_ne h2 with h | h
      · exact .inl ⟨h1, h⟩
      · exact .inr (.inr ⟨h1, h⟩)
theorem insI_sorted {l : List Int} (h : l.Pairwise (· < ·)) (k : Int) : (insI l k).Pairwise (· < ·) := by
  unfold insI
  refine List.pairwise_append.2 ⟨h.filter _, List.pairwise_cons.2 ⟨fun x hx => ?_, h.filter _⟩, fun x hx y hy => ?_⟩
  · simpa using (List.mem_filter.1 hx).2
  · have h1 : x < k := by simpa using (List.mem_filter.1 hx).2
    rcases List.mem_cons.1 hy with rfl | hy
    · exact h1
    · have : k < y := by simpa using (List.mem_filter.1 hy).2
      omega
/-- what every state that is played meets -/
structure RInv (r : Repl) : Prop where
  rw : RW r
  hist : ∃ H : Int → List Entry, (∀ (k : Nat) (l : List Entry), r.Logs[k]? = some l → Hist H l) ∧ H r.Epoch = logAt r r.Leader
  ep : ∀ (k : Nat) (l : List Entry), r.Logs[k]? = some l → ∀ x, x ∈ l → x.Epoch ≤ r.Epoch
  cert : certain r = r.Certain.length
theorem get_set_cases {α : Type} {l : List α} {k j : Nat} {x a : α} (h : (l.set k x)[j]? = some a) : (k = j ∧ a = x ∧ k < l.length) ∨ (k ≠ j ∧ l[j]? = some a) := by
  by_cases hkj : k = j
  · subst hkj
    have hk : k < l.length := by have := (List.getElem?_eq_some_iff.1 h).1; rwa [List.length_set] at this
    rw [List.getElem?_set_self hk] at h
    injection h with h
    exact .inl ⟨rfl, h.symm, hk⟩
  · rw [List.getElem?_set_ne hkj] at h
    exact .inr ⟨hkj, h⟩
theorem logAt_set {r : Repl} {L : List (List Entry)} {k j : Int} {x : List Entry} (hL : r.Logs = L.set k.toNat x) (hk : k.toNat < L.length) : logAt r j = if k.toNat = j.toNat then x else L.getD j.toNat [] := by
  unfold logAt
  rw [hL, List.getD_eq_getElem?_getD, List.getD_eq_getElem?_getD]
  split
  · rename_i h
    rw [← h, List.getElem?_set_self hk]; rfl
  · rename_i h
    rw [List.getElem?_set_ne h]
/-- the certain entries told anew: what is asked of a state ahead of it -/
structure RPre (r : Repl) : Prop where
  rw : RW r
  hist : ∃ H : Int → List Entry, (∀ (k : Nat) (l : List Entry), r.Logs[k]? = some l → Hist H l) ∧ H r.Epoch = logAt r r.Leader
  ep : ∀ (k : Nat) (l : List Entry), r.Logs[k]? = some l → ∀ x, x ∈ l → x.Epoch ≤ r.Epoch
theorem rcert_eq {r : Repl} (h : RW r) : (rcert r).Certain = (logAt r r.Leader).take (certain r) ∧ r.Certain <+: (rcert r).Certain := by
  have h1 := h.certain_ge
  have hc := h.cert _ h.leadIn
  have e : (rcert r).Certain = (logAt r r.Leader).take (certain r) := by
    show (if _ then _ else _) = _
    split
    · rfl
    · have : certain r = r.Certain.length := by omega
      rw [this]; exact List.prefix_iff_eq_take.1 hc
  refine ⟨e, ?_⟩
  rw [e]
  rw [List.prefix_iff_eq_take.1 hc]
  exact List.take_prefix_take_left h1
theorem RPre.inv {r : Repl} (h : RPre r) : RInv (rcert r) := by
  have hw := h.rw
  have e := rcert_eq hw
  have hcl := certF_le r r.InSync (logAt r r.Leader).length
  refine ⟨⟨hw.n1, hw.n5, hw.down, hw.lead, hw.epoch, hw.sync, hw.syncIn, hw.leadIn, hw.logs, fun k hk => ?_⟩, h.hist, h.ep, ?_⟩
  · show (rcert r).Certain <+: logAt r k
    rw [e.1]
    have h1 : certain r ≤ _ := hcl.2 k hk
    have h2 := part_take (logAt r r.Leader) (logAt r k)
    have h3 : (logAt r r.Leader).take (certain r) = (logAt r k).take (certain r) := by
      have := congrArg (List.take (certain r)) h2
      rwa [List.take_take, List.take_take, Nat.min_eq_left h1] at this
    rw [h3]
    exact List.take_prefix _ _
  · show certain r = (rcert r).Certain.length
    rw [e.1, List.length_take]
    have : certain r ≤ (logAt r r.Leader).length := hcl.1
    omega
theorem RInv.do_ {r : Repl} (h : RInv r) (s : ReplStep) (hok : (rdo r s).2 = true) : RPre (rdo r s).1 ∧ (rdo r s).1.Certain = r.Certain := by
  obtain ⟨hw, ⟨H, hH, hE⟩, hep, hcert⟩ := h
  have hlat := hw.at_ hw.lead.1 hw.lead.2
  have hlen := (List.getElem?_eq_some_iff.1 hlat).1
  have HIST : ∀ (k : Int), 0 ≤ k → k < r.Logs.length → Hist H (logAt r k) := fun k h0 h1 => hH _ _ (hw.at_ h0 h1)
  unfold rdo at hok ⊢
  by_cases h1 : s.Kind = 1
  · rw [if_pos h1] at hok ⊢
    by_cases h2 : s.Node = 0 ∧ downAt r r.Leader = false ∧ s.Text.size ≤ 20 ∧ (logAt r r.Leader).length ≠ 40 ∧ lastEp (logAt r r.Leader) ≤ r.Epoch
    · rw [if_pos h2]
      obtain ⟨_, _, g1, g2, g3⟩ := h2
      have hxo : entOk ⟨r.Epoch, s.Text⟩ = true := by unfold entOk isIn; simp; exact ⟨hw.epoch, g1⟩
      have hL : LogOk (logAt r r.Leader ++ [⟨r.Epoch, s.Text⟩]) := (hw.ok hw.lead.1 hw.lead.2).snoc g2 hxo g3
      have hset : ∀ j : Int, 0 ≤ j → logAt { r with Logs := r.Logs.set r.Leader.toNat (logAt r r.Leader ++ [⟨r.Epoch, s.Text⟩]) } j = if r.Leader = j then logAt r r.Leader ++ [⟨r.Epoch, s.Text⟩] else logAt r j := fun j hj => by
        rw [logAt_set (r := { r with Logs := r.Logs.set r.Leader.toNat _ }) rfl hlen]
        by_cases e : r.Leader = j
        · rw [if_pos (by rw [e]), if_pos e]
        · rw [if_neg (by have := hw.lead; omega), if_neg e]; rfl
      refine ⟨⟨⟨by simpa using hw.n1, by simpa using hw.n5, by simpa using hw.down, by simpa using hw.lead, hw.epoch, hw.sync, by simpa using hw.syncIn, hw.leadIn, fun k l hl => ?_, fun k hk => ?_⟩, ⟨fun e => if e = r.Epoch then logAt r r.Leader ++ [⟨r.Epoch, s.Text⟩] else H e, fun k l hl => ?_, ?_⟩, fun k l hl x hx => ?_⟩, rfl⟩
      · rcases get_set_cases hl with ⟨_, rfl, _⟩ | ⟨_, hl⟩
        · exact hL
        · exact hw.logs k l hl
      · show r.Certain <+: _
        rw [hset k (hw.syncIn k hk).1]
        split
        · rename_i e
          subst e
          exact (hw.cert _ hk).trans (List.prefix_append _ _)
        · exact hw.cert k hk
      · have old : ∀ l, Hist H l → Hist (fun e => if e = r.Epoch then logAt r r.Leader ++ [⟨r.Epoch, s.Text⟩] else H e) l := fun l hl i x hx => by
          have h5 := hl i x hx
          show l.take (i + 1) = (if x.Epoch = r.Epoch then _ else _ : List Entry).take (i + 1)
          split
          · rename_i e
            rw [e, hE] at h5
            have hi := (List.getElem?_eq_some_iff.1 hx).1
            have h6 := congrArg List.length h5
            rw [List.length_take, List.length_take] at h6
            rw [List.take_append_of_le_length (by omega)]
            exact h5
          · exact h5
        rcases get_set_cases hl with ⟨_, rfl, _⟩ | ⟨_, hl⟩
        · refine (old _ (hH _ _ hlat)).snoc ?_
          show (if r.Epoch = r.Epoch then _ else _ : List Entry).take _ = _
          rw [if_pos rfl, List.take_of_length_le (by simp)]
        · exact old l (hH k l hl)
      · show (if r.Epoch = r.Epoch then _ else _ : List Entry) = logAt _ r.Leader
        rw [if_pos rfl, hset _ hw.lead.1, if_pos rfl]
      · rcases get_set_cases hl with ⟨_, rfl, _⟩ | ⟨_, hl⟩
        · rcases List.mem_append.1 hx with hx | hx
          · exact hep _ _ hlat x hx
          · rw [List.mem_singleton.1 hx]; exact Int.le_refl _
        · exact hep k l hl x hx
    · rw [if_neg h2] at hok; cases hok
  rw [if_neg h1] at hok ⊢
  by_cases h2 : s.Text.size ≠ 0 ∨ s.Node < 0 ∨ (r.Logs.length : Int) ≤ s.Node
  · rw [if_pos h2] at hok; cases hok
  rw [if_neg h2] at hok ⊢
  have hk0 : 0 ≤ s.Node := by omega
  have hk1 : s.Node < r.Logs.length := by omega
  by_cases h3 : s.Kind = 2
  · rw [if_pos h3] at hok ⊢
    by_cases h4 : s.Node ≠ r.Leader ∧ downAt r r.Leader = false ∧ downAt r s.Node = false
    · rw [if_pos h4]
      have ho := hw.ok hk0 hk1
      have hlo := hw.ok hw.lead.1 hw.lead.2
      have hkn : s.Node.toNat < r.Logs.length := by omega
      have hf : fetchL (logAt r s.Node) (logAt r r.Leader) = (logAt r r.Leader).take (ffind (logAt r s.Node) (logAt r r.Leader) + 1) := fetchL_take (HIST _ hk0 hk1) (HIST _ hw.lead.1 hw.lead.2) ho.ris hlo.ris
      have hset : ∀ j : Int, 0 ≤ j → logAt (rfetch r s.Node) j = if s.Node = j then fetchL (logAt r s.Node) (logAt r r.Leader) else logAt r j := fun j hj => by
        rw [logAt_set (r := rfetch r s.Node) rfl hkn]
        by_cases e : s.Node = j
        · rw [if_pos (by rw [e]), if_pos e]
        · rw [if_neg (by omega), if_neg e]; rfl
      refine ⟨⟨⟨by simpa [rfetch] using hw.n1, by simpa [rfetch] using hw.n5, by simpa [rfetch] using hw.down, by simpa [rfetch] using hw.lead, hw.epoch, hw.sync, by simpa [rfetch] using hw.syncIn, hw.leadIn, fun k l hl => ?_, fun k hk => ?_⟩, ⟨H, fun k l hl => ?_, ?_⟩, fun k l hl x hx => ?_⟩, rfl⟩
      · rcases get_set_cases hl with ⟨_, rfl, _⟩ | ⟨_, hl⟩
        · rw [hf]; exact hlo.take _
        · exact hw.logs k l hl
      · show r.Certain <+: _
        rw [hset k (hw.syncIn k hk).1]
        split
        · rename_i e
          subst e
          rw [hf]
          have h5 := ffind_ge ho.ris hlo.ris (hw.cert _ hk) (hw.cert _ hw.leadIn)
          rw [List.prefix_iff_eq_take.1 (hw.cert _ hw.leadIn)]
          exact List.take_prefix_take_left (by omega)
        · exact hw.cert k hk
      · rcases get_set_cases hl with ⟨_, rfl, _⟩ | ⟨_, hl⟩
        · rw [hf]; exact (HIST _ hw.lead.1 hw.lead.2).take _
        · exact hH k l hl
      · show H r.Epoch = logAt (rfetch r s.Node) r.Leader
        rw [hset _ hw.lead.1, if_neg h4.1]; exact hE
      · rcases get_set_cases hl with ⟨_, rfl, _⟩ | ⟨_, hl⟩
        · rw [hf] at hx
          exact hep _ _ hlat x (List.mem_of_mem_take hx)
        · exact hep k l hl x hx
    · rw [if_neg h4] at hok; cases hok
  rw [if_neg h3] at hok ⊢
  by_cases h4 : s.Kind = 3
  · rw [if_pos h4] at hok ⊢
    by_cases h5 : hasI r.InSync s.Node = true ∧ s.Node ≠ r.Leader ∧ downAt r r.Leader = false
    · rw [if_pos h5]
      exact ⟨⟨⟨hw.n1, hw.n5, hw.down, hw.lead, hw.epoch, hw.sync.filter _, fun k hk => hw.syncIn k (mem_outI.1 hk).1, mem_outI.2 ⟨hw.leadIn, fun e => h5.2.1 e.symm⟩, hw.logs, fun k hk => hw.cert k (mem_outI.1 hk).1⟩, ⟨H, hH, hE⟩, hep⟩, rfl⟩
    · rw [if_neg h5] at hok; cases hok
  rw [if_neg h4] at hok ⊢
  by_cases h5 : s.Kind = 4
  · rw [if_pos h5] at hok ⊢
    by_cases h6 : hasI r.InSync s.Node = false ∧ downAt r r.Leader = false ∧ sameLog r s.Node = true
    · rw [if_pos h6]
      have hs := sameLog_iff.1 h6.2.2
      refine ⟨⟨⟨hw.n1, hw.n5, hw.down, hw.lead, hw.epoch, insI_sorted hw.sync _, fun k hk => ?_, mem_insI.2 ?_, hw.logs, fun k hk => ?_⟩, ⟨H, hH, hE⟩, hep⟩, rfl⟩
      · rcases mem_insI.1 hk with rfl | h
        · exact ⟨hk0, hk1⟩
        · exact hw.syncIn k h.1
      · by_cases e : r.Leader = s.Node
        · exact .inl e
        · exact .inr ⟨hw.leadIn, e⟩
      · show r.Certain <+: logAt r k
        rcases mem_insI.1 hk with rfl | h
        · rw [hs]; exact hw.cert _ hw.leadIn
        · exact hw.cert k h.1
    · rw [if_neg h6] at hok; cases hok
  rw [if_neg h5] at hok ⊢
  by_cases h6 : s.Kind = 5
  · rw [if_pos h6] at hok ⊢
    by_cases h7 : downAt r s.Node = false
    · rw [if_pos h7]
      exact ⟨⟨⟨hw.n1, hw.n5, by simpa using hw.down, hw.lead, hw.epoch, hw.sync, hw.syncIn, hw.leadIn, hw.logs, hw.cert⟩, ⟨H, hH, hE⟩, hep⟩, rfl⟩
    · rw [if_neg h7] at hok; cases hok
  rw [if_neg h6] at hok ⊢
  by_cases h7 : s.Kind = 6
  · rw [if_pos h7] at hok ⊢
    by_cases h8 : downAt r s.Node = true
    · rw [if_pos h8]
      exact ⟨⟨⟨hw.n1, hw.n5, by simpa using hw.down, hw.lead, hw.epoch, hw.sync, hw.syncIn, hw.leadIn, hw.logs, hw.cert⟩, ⟨H, hH, hE⟩, hep⟩, rfl⟩
    · rw [if_neg h8] at hok; cases hok
  rw [if_neg h7] at hok ⊢
  by_cases h8 : s.Kind = 7
  · rw [if_pos h8] at hok ⊢
    by_cases h9 : hasI r.InSync s.Node = true ∧ downAt r s.Node = false ∧ r.Epoch < 1000
    · rw [if_pos h9]
      refine ⟨⟨⟨hw.n1, hw.n5, hw.down, ⟨hk0, hk1⟩, by have := hw.epoch; have := h9.2.2; show 1 ≤ r.Epoch + 1 ∧ r.Epoch + 1 ≤ 1000; omega, hw.sync, hw.syncIn, hasI_iff.1 h9.1, hw.logs, hw.cert⟩, ⟨fun e => if e = r.Epoch + 1 then logAt r s.Node else H e, fun k l hl i x hx => ?_, ?_⟩, fun k l hl x hx => ?_⟩, rfl⟩
      · have h10 := hep k l hl x (List.mem_of_getElem? hx)
        show l.take (i + 1) = (if x.Epoch = r.Epoch + 1 then _ else _ : List Entry).take (i + 1)
        rw [if_neg (by omega)]
        exact hH k l hl i x hx
      · show (if r.Epoch + 1 = r.Epoch + 1 then _ else _ : List Entry) = logAt r s.Node
        rw [if_pos rfl]
      · have := hep k l hl x hx
        show x.Epoch ≤ r.Epoch + 1
        omega
    · rw [if_neg h9] at hok; cases hok
  rw [if_neg h8] at hok; cases hok
theorem rstep_no {r : Repl} {s : ReplStep} (h : (rstep r s).2 = false) : (rstep r s).1 = r := by
  unfold rstep at *
  split
  · rename_i h1; rw [if_pos h1] at h; cases h
  · rfl
theorem RInv.step {r : Repl} (h : RInv r) (s : ReplStep) : RInv (rstep r s).1 ∧ r.Certain <+: (rstep r s).1.Certain := by
  unfold rstep
  split
  · rename_i hok
    obtain ⟨h1, h2⟩ := h.do_ s hok
    refine ⟨h1.inv, ?_⟩
    have := (rcert_eq h1.rw).2
    rw [h2] at this
    exact this
  · exact ⟨h, List.prefix_refl _⟩
/-- a new state -/
def newRe (n : Nat) : Repl := ⟨List.replicate n [], List.replicate n false, 0, 1, (List.range n).map (fun k : Nat => (k : Int)), []⟩
theorem newRe_inv {n : Nat} (h1 : 1 ≤ n) (h5 : n ≤ 5) : RInv (newRe n) := by
  have hl : ∀ (k : Nat) (l : List Entry), (newRe n).Logs[k]? = some l → l = [] := fun k l hl => by
    have := List.mem_of_getElem? hl
    exact (List.mem_replicate.1 this).2
  have hla : ∀ k, logAt (newRe n) k = [] := fun k => by
    unfold logAt
    rw [List.getD_eq_getElem?_getD]
    cases h : (newRe n).Logs[k.toNat]? with
    | none => rfl
    | some l => rw [hl _ _ h]; rfl
  refine ⟨⟨by simpa [newRe] using h1, by simpa [newRe] using h5, by simp [newRe], by simp [newRe]; omega, by simp [newRe], ?_, fun k hk => ?_, ?_, (fun k l h => by rw [hl k l h]; exact LogOk.nil), fun k hk => List.nil_prefix⟩, ⟨fun _ => [], (fun k l h i x hx => by rw [hl k l h] at hx; simp at hx), by rw [hla]⟩, (fun k l h x hx => by rw [hl k l h] at hx; cases hx), ?_⟩
  · show ((List.range n).map (fun k : Nat => (k : Int))).Pairwise (· < ·)
    rw [List.pairwise_map]
    exact List.pairwise_lt_range.imp (by intro a b h; omega)
  · obtain ⟨j, hj, rfl⟩ := List.mem_map.1 hk
    have := List.mem_range.1 hj
    simp [newRe]; omega
  · exact List.mem_map.2 ⟨0, List.mem_range.2 (by omega), rfl⟩
  · show certain (newRe n) = 0
    have := (certF_le (newRe n) (newRe n).InSync (logAt (newRe n) (newRe n).Leader).length).1
    rw [hla] at this
    unfold certain
    rw [hla]
    simpa using this
def playR (r : Repl) (l : List ReplStep) : Repl × List Bool := l.foldl (fun p s => ((rstep p.1 s).1, p.2 ++ [(rstep p.1 s).2])) (r, [])
theorem playR_nil (r : Repl) : playR r [] = (r, []) := rfl
theorem playR_snoc (r : Repl) (l : List ReplStep) (s : ReplStep) : playR r (l ++ [s]) = ((rstep (playR r l).1 s).1, (playR r l).2 ++ [(rstep (playR r l).1 s).2]) := by
  unfold playR; rw [List.foldl_append]; rfl
theorem playR_inv (r : Repl) (h : RInv r) : ∀ n (l : List ReplStep), l.length = n → RInv (playR r l).1 ∧ (playR r l).2.length = n
  | 0, l, hl => by
    rw [List.length_eq_zero_iff.1 hl]
    exact ⟨h, rfl⟩
  | n + 1, l, hl => by
    rcases List.eq_nil_or_concat l with rfl | ⟨l', s, rfl⟩
    · cases hl
    · rw [List.concat_eq_append] at hl ⊢
      have ih := playR_inv r h n l' (by simpa using hl)
      rw [playR_snoc]
      exact ⟨(ih.1.step s).1, by simp [ih.2]⟩
/-- what was certain still is -/
theorem playR_pre (r : Repl) (h : RInv r) : ∀ m l : List ReplStep, (playR r l).1.Certain <+: (playR r (l ++ m)).1.Certain
  | [], l => by simp
  | s :: m, l => by
    have h1 := playR_pre r h m (l ++ [s])
    rw [List.append_assoc, List.singleton_append] at h1
    refine List.IsPrefix.trans ?_ h1
    rw [playR_snoc]
    exact ((playR_inv r h _ l rfl).1.step s).2
/-- logs have one history -/
theorem RInv.match_ {r : Repl} (h : RInv r) {i k : Nat} {a b : List Entry} (ha : r.Logs[i]? = some a) (hb : r.Logs[k]? = some b) :
    (∀ (j : Nat) (x y : Entry), a[j]? = some x → b[j]? = some y → x.Epoch = y.Epoch → j < part a b) ∧
    ∀ s t, s ∈ starts a → t ∈ starts b → s.Epoch = t.Epoch → s.At = t.At := by
  obtain ⟨H, hH, _⟩ := h.hist
  have h1 := hH i a ha
  have h2 := hH k b hb
  have g1 := (h.rw.logs i a ha).ris
  have g2 := (h.rw.logs k b hb).ris
  refine ⟨fun j x y hx hy he => ?_, fun s t hs ht he => ?_⟩
  · have e1 := (List.getElem?_eq_some_iff.1 hx).1
    have e2 := (List.getElem?_eq_some_iff.1 hy).1
    have := part_ge a b (j + 1) (by omega) (by omega) (hist_same h1 h2 hx hy he)
    omega
  · obtain ⟨p, q1, q2, rfl⟩ := startsTo_mem.1 hs
    obtain ⟨p', q3, q4, rfl⟩ := startsTo_mem.1 ht
    have x1 := List.getElem?_eq_getElem q1
    have x2 := List.getElem?_eq_getElem q3
    have he' : epAt a p = epAt b p' := he
    rw [epAt_of x1, epAt_of x2] at he'
    have := hist_start h1 h2 g1 g2 x1 x2 he' q2 q4
    show (p : Int) = p'
    omega
end Pl
end Go.Proofs.Ytkhchfbpmmiopaa

/-
  Plain functions: entries that are good; rising numbers. No program in sight. No conditions.
-/
namespace Go.Proofs.Ytkhchfbpmmiopaa
namespace Pl
def entsP (l : List Entry) (k : Nat) : Bool := entOk (l.getD k zEn) && (decide (k = 0) || decide (epAt l (k - 1) ≤ epAt l k))
def entsOk (l : List Entry) : Bool := allB l.length (entsP l) && decide (l.length ≤ 40)
theorem entsP_of {l : List Entry} {k : Nat} {x : Entry} (h : l[k]? = some x) : entsP l k = (entOk x && (decide (k = 0) || decide (epAt l (k - 1) ≤ x.Epoch))) := by
  unfold entsP
  rw [epAt_of h, List.getD_eq_getElem?_getD, h]; rfl
theorem entsOk_iff {l : List Entry} : entsOk l = true ↔ LogOk l := by
  unfold entsOk
  rw [Bool.and_eq_true, decide_eq_true_eq, allB_iff]
  constructor
  · rintro ⟨h, h40⟩
    have h1 : ∀ (k : Nat) (x : Entry), l[k]? = some x → entOk x = true ∧ (0 < k → epAt l (k - 1) ≤ x.Epoch) := fun k x hx => by
      have h2 := h k (List.getElem?_eq_some_iff.1 hx).1
      rw [entsP_of hx, Bool.and_eq_true, Bool.or_eq_true, decide_eq_true_eq, decide_eq_true_eq] at h2
      exact ⟨h2.1, fun h0 => h2.2.resolve_left (by omega)⟩
    refine ⟨fun i j x y hx hy hij => ?_, h40, fun i x hx => (h1 i x hx).1⟩
    obtain ⟨d, rfl⟩ : ∃ d, j = i + d := ⟨j - i, by omega⟩
    clear hij
    induction d generalizing y with
    | zero => rw [Nat.add_zero, hx] at hy; injection hy with hy; rw [hy]; exact Int.le_refl _
    | succ d ih =>
      have hj := (List.getElem?_eq_some_iff.1 hy).1
      have hz := List.getElem?_eq_getElem (show i + d < l.length by omega)
      have h3 := ih _ hz
      have h4 := (h1 _ y hy).2 (by omega)
      rw [show i + (d + 1) - 1 = i + d by omega, epAt_of hz] at h4
      omega
  · intro h
    refine ⟨fun k hk => ?_, h.len⟩
    have hx := List.getElem?_eq_getElem hk
    rw [entsP_of hx, Bool.and_eq_true, Bool.or_eq_true, decide_eq_true_eq, decide_eq_true_eq]
    refine ⟨h.ok k _ hx, ?_⟩
    rcases Nat.eq_zero_or_pos k with h0 | h0
    · exact .inl h0
    · have hz := List.getElem?_eq_getElem (show k - 1 < l.length by omega)
      rw [epAt_of hz]
      exact .inr (h.ris _ _ _ _ hz hx (by omega))
/-- rising numbers from 0 on, all below n -/
def risP (n : Int) (l : List Int) (k : Nat) : Bool := isIn (l.getD k 0) 0 (n - 1) && (decide (k = 0) || decide (l.getD (k - 1) 0 < l.getD k 0))
def risI (n : Int) (l : List Int) : Bool := allB l.length (risP n l)
theorem risP_of {n : Int} {l : List Int} {k : Nat} {x : Int} (h : l[k]? = some x) : risP n l k = (isIn x 0 (n - 1) && (decide (k = 0) || decide (l.getD (k - 1) 0 < x))) := by
  have e : l.getD k 0 = x := by rw [List.getD_eq_getElem?_getD, h]; rfl
  unfold risP
  rw [e]
theorem risI_iff {n : Nat} {l : List Int} : risI n l = true ↔ l.Pairwise (· < ·) ∧ ∀ k, k ∈ l → 0 ≤ k ∧ k < n := by
  unfold risI
  rw [allB_iff]
  constructor
  · intro h
    have h1 : ∀ (k : Nat) (x : Int), l[k]? = some x → (0 ≤ x ∧ x < n) ∧ (0 < k → l.getD (k - 1) 0 < x) := fun k x hx => by
      have h2 := h k (List.getElem?_eq_some_iff.1 hx).1
      rw [risP_of hx, Bool.and_eq_true, Bool.or_eq_true, decide_eq_true_eq, decide_eq_true_eq, isIn_iff] at h2
      exact ⟨by omega, fun h0 => h2.2.resolve_left (by omega)⟩
    refine ⟨?_, fun k hk => by
      obtain ⟨i, hi⟩ := List.mem_iff_getElem?.1 hk
      exact (h1 i k hi).1⟩
    rw [List.pairwise_iff_getElem]
    intro i j hi hj hij
    obtain ⟨d, rfl⟩ : ∃ d, j = i + 1 + d := ⟨j - (i + 1), by omega⟩
    clear hij
    induction d with
    | zero =>
      have h4 := (h1 _ _ (List.getElem?_eq_getElem hj)).2 (by omega)
      have e : l.getD (i + 1 + 0 - 1) 0 = l[i] := by rw [List.getD_eq_getElem?_getD, show i + 1 + 0 - 1 = i by omega, List.getElem?_eq_getElem hi]; rfl
      rw [e] at h4
      exact h4
    | succ d ih =>
      have h3 := ih (by omega)
      have h4 := (h1 _ _ (List.getElem?_eq_getElem hj)).2 (by omega)
      have e : l.getD (i + 1 + (d + 1) - 1) 0 = l[i + 1 + d]'(by omega) := by rw [List.getD_eq_getElem?_getD, show i + 1 + (d + 1) - 1 = i + 1 + d by omega, List.getElem?_eq_getElem (by omega)]; rfl
      rw [e] at h4
      omega
  · rintro ⟨h, h2⟩ k hk
    have hx := List.getElem?_eq_getElem hk
    rw [risP_of hx, Bool.and_eq_true, Bool.or_eq_true, decide_eq_true_eq, decide_eq_true_eq, isIn_iff]
    have h3 := h2 _ (List.getElem_mem hk)
    refine ⟨by omega, ?_⟩
    rcases Nat.eq_zero_or_pos k with h0 | h0
    · exact .inl h0
    · right
      have e : l.getD (k - 1) 0 = l[k - 1]'(by omega) := by rw [List.getD_eq_getElem?_getD, List.getElem?_eq_getElem (by omega)]; rfl
      rw [e]
      exact List.pairwise_iff_getElem.1 h (k - 1) k (by omega) hk (by omega)
end Pl
end Go.Proofs.Ytkhchfbpmmiopaa

/-
  Plain functions: replication: what a good state is. No program in sight. No conditions.
-/
namespace Go.Proofs.Ytkhchfbpmmiopaa
namespace Pl
def certP (r : Repl) (k : Int) : Bool := decide (part (logAt r k) r.Certain = r.Certain.length)
def replA (r : Repl) : Bool := isIn r.Logs.length 1 5 && decide (r.Down.length = r.Logs.length) && isIn r.Leader 0 ((r.Logs.length : Int) - 1) && isIn r.Epoch 1 1000
def replOk (r : Repl) : Bool := replA r && risI r.Logs.length r.InSync && hasI r.InSync r.Leader && r.Logs.all entsOk && r.InSync.all (certP r)
theorem replA_iff {r : Repl} : replA r = true ↔ (1 ≤ r.Logs.length ∧ r.Logs.length ≤ 5) ∧ r.Down.length = r.Logs.length ∧ (0 ≤ r.Leader ∧ r.Leader < r.Logs.length) ∧ 1 ≤ r.Epoch ∧ r.Epoch ≤ 1000 := by
  unfold replA
  rw [Bool.and_eq_true, Bool.and_eq_true, Bool.and_eq_true, isIn_iff, isIn_iff, isIn_iff, decide_eq_true_eq]
  omega
theorem replOk_iff {r : Repl} : replOk r = true ↔ RW r := by
  unfold replOk
  rw [Bool.and_eq_true, Bool.and_eq_true, Bool.and_eq_true, Bool.and_eq_true, replA_iff, risI_iff, hasI_iff, List.all_eq_true, List.all_eq_true]
  constructor
  · rintro ⟨⟨⟨⟨h1, h2⟩, h3⟩, h4⟩, h5⟩
    exact ⟨h1.1.1, h1.1.2, h1.2.1, h1.2.2.1, h1.2.2.2, h2.1, h2.2, h3, fun k l hl => entsOk_iff.1 (h4 l (List.mem_of_getElem? hl)), fun k hk => part_full.1 (of_decide_eq_true (h5 k hk))⟩
  · intro h
    refine ⟨⟨⟨⟨⟨⟨h.n1, h.n5⟩, h.down, h.lead, h.epoch⟩, h.sync, h.syncIn⟩, h.leadIn⟩, fun l hl => ?_⟩, fun k hk => decide_eq_true (part_full.2 (h.cert k hk))⟩
    obtain ⟨i, hi⟩ := List.mem_iff_getElem?.1 hl
    exact entsOk_iff.2 (h.logs i l hi)
theorem RW.sync5 {r : Repl} (h : RW r) : r.InSync.length ≤ 5 := by
  have key : ∀ (l : List Int) (a b : Int), l.Pairwise (· < ·) → (∀ x, x ∈ l → a ≤ x ∧ x < b) → a ≤ b → (l.length : Int) ≤ b - a := by
    intro l
    induction l with
    | nil => intro a b _ _ h; simp; omega
    | cons x t ih =>
      intro a b hp hx hab
      have h1 := hx x (by simp)
      have h2 := List.pairwise_cons.1 hp
      have h3 := ih (x + 1) b h2.2 (fun y hy => by have := h2.1 y hy; have := hx y (by simp [hy]); omega) (by omega)
      rw [List.length_cons]
      push_cast
      omega
  have := key r.InSync 0 r.Logs.length h.sync h.syncIn (by omega)
  have := h.n5
  omega
theorem RW.ents {r : Repl} (h : RW r) : entsOk r.Certain = true := entsOk_iff.2 ((h.ok h.lead.1 h.lead.2).pre (h.cert _ h.leadIn))
end Pl
end Go.Proofs.Ytkhchfbpmmiopaa

/-
  From the form's own reading of an argument to the readings of Mm: for numbers, strings, structs and slices of whatever depth. No program in sight. No conditions.
-/
namespace Go.Proofs.Ytkhchfbpmmiopaa
open Go.ChangeShapes Go.WideShapes Go.RowKit Go.Deep
namespace Mm

def Opens {α : Type} (P : Program) (t : TypeId) (E : Rep α) : Prop :=
  P.cellsOf t = E.size ∧ ∀ (H : Type) (enc : TypeId × Value → H) (w : World) (base : Nat) (spare : Nat → Bool) (held : Bool) (fuel : Nat) (cs : List Value) (x : DataW H × List MemPlace),
    DataW.trod enc P w base spare held fuel t cs = some x → ∃ y, E.at_ w w.heap.size y cs

variable {P : Program} {t e : TypeId}

theorem opens_int (ht : P.underlying t = some (.int .i64)) (hc : P.cellsOf t = 1) : Opens P t int := ⟨hc, fun H enc w base spare held fuel cs x h => by
  obtain ⟨n, rfl, _, hw⟩ := DataW.trod_int ht h
  refine ⟨n, rfl, ?_⟩
  simp [Lit.wf, IntKind.min, IntKind.max, IntKind.signed, IntKind.bits] at hw
  unfold I64
  omega⟩
theorem opens_bool (ht : P.underlying t = some .bool) (hc : P.cellsOf t = 1) : Opens P t bool := ⟨hc, fun H enc w base spare held fuel cs x h => by
  obtain ⟨n, rfl, _⟩ := DataW.trod_bool ht h
  exact ⟨n, rfl, trivial⟩⟩
theorem opens_str (ht : P.underlying t = some .string) (hc : P.cellsOf t = 1) : Opens P t str := ⟨hc, fun H enc w base spare held fuel cs x h => by
  obtain ⟨n, rfl, _, hw⟩ := DataW.trod_string ht h
  exact ⟨n, rfl, hw⟩⟩
theorem opens_map {α β : Type} {E : Rep α} {F : Rep β} (h : Opens P t E) (hs : E.size = F.size) (hc : ∀ w B x cs, E.at_ w B x cs → ∃ y, F.at_ w B y cs) : Opens P t F :=
  ⟨h.1.trans hs, fun H enc w base spare held fuel cs x hx => by
    obtain ⟨y, hy⟩ := h.2 H enc w base spare held fuel cs x hx
    exact hc _ _ _ _ hy⟩
theorem opens_slice {α : Type} {E : Rep α} (ht : P.underlying t = some (.slice e)) (hc : P.cellsOf t = 1) (h0 : 0 < E.size) (hE : Opens P e E) : Opens P t (slice E e) := ⟨hc, fun H enc w base spare held fuel cs x h => by
  rcases open_slice ht h with ⟨rfl, _⟩ | ⟨a, len, cap, m, n, D, Pl, rfl, hb, hl, hm, hmm, _, hi⟩
  · exact ⟨[], none, 0, 0, rfl, SlAt.nil (Nat.zero_le _) (fun _ => rfl)⟩
  · have hle : len ≤ m := by rw [hmm]; split <;> omega
    have hex : ∀ i : Fin len, ∃ y : α, ∃ cs', E.at_ w w.heap.size y cs' ∧ cs'.length = E.size ∧ ∀ j, j < E.size → w.cell? (a.add (i.1 * E.size + j)) = cs'[j]? := by
      intro i
      obtain ⟨cs', h1, h2⟩ := hi i.1 (by have := i.2; omega)
      obtain ⟨y, hy⟩ := hE.2 H enc w base spare held n cs' _ h2
      obtain ⟨_, hln, hcell⟩ := World.cells?_some h1
      rw [hE.1] at hln hcell
      exact ⟨y, cs', hy, hln, fun j hj => by rw [← Go.Deep.add_add]; exact hcell j hj⟩
    refine ⟨List.ofFn fun i : Fin len => Classical.choose (hex i), some a, len, cap, rfl, by simp, hl, hm, (fun h => by cases h), fun i y hy => ?_⟩
    have hil : i < len := by
      have := (List.getElem?_eq_some_iff.1 hy).1
      simpa using this
    obtain ⟨cs', h1, h2, h3⟩ := Classical.choose_spec (hex ⟨i, hil⟩)
    have hey : Classical.choose (hex ⟨i, hil⟩) = y := by
      rw [List.getElem?_ofFn] at hy
      simpa [hil] using hy
    rw [hey] at h1
    obtain ⟨cs0, _, h20, h30⟩ := Classical.choose_spec (hex ⟨0, by omega⟩)
    have hc0 := h30 0 h0
    rw [List.getElem?_eq_getElem (by omega)] at hc0
    obtain ⟨b, off, spot⟩ := a
    have hsp : spot = none := by
      have := World.cell?_spot hc0
      simpa [Addr.add] using this
    subst hsp
    have hadd : ∀ k : Nat, (⟨b, off, none⟩ : Addr).add k = ⟨b, off + k, none⟩ := fun k => by unfold Addr.add; split <;> simp_all
    refine ⟨b, off, cs', rfl, ?_, h1, fun j u hu => ?_⟩
    · have := World.block_lt_of_cell? w _ hc0
      rw [hadd] at this
      exact this
    · have hj : j < cs'.length := (List.getElem?_eq_some_iff.1 hu).1
      have := h3 j (by omega)
      rw [hu, hadd] at this
      rw [Nat.add_assoc]
      exact this⟩

def OpensF {α : Type} (P : Program) (l : List Field) (off : Nat) (E : Rep α) : Prop :=
  ∀ (H : Type) (enc : TypeId × Value → H) (w : World) (base : Nat) (spare : Nat → Bool) (held : Bool) (n : Nat) (cs : List Value), cs.length = off + E.size →
    (∀ (i : Nat) (f : Field), l[i]? = some f → ∃ x, DataW.trod enc P w base spare held n f.type ((cs.drop f.offset).take (P.cellsOf f.type)) = some x) → ∃ y, E.at_ w w.heap.size y (cs.drop off)
theorem opensF_one {α : Type} {E : Rep α} {f : Field} {off : Nat} (ho : f.offset = off) (h : Opens P f.type E) : OpensF P [f] off E := fun H enc w base spare held n cs hl hf => by
  obtain ⟨x, hx⟩ := hf 0 f rfl
  obtain ⟨y, hy⟩ := h.2 H enc w base spare held n _ x hx
  rw [ho, h.1, List.take_of_length_le (by rw [List.length_drop]; omega)] at hy
  exact ⟨y, hy⟩
theorem opensF_cons {α β : Type} {E : Rep α} {F : Rep β} {f : Field} {l : List Field} {off : Nat} (ho : f.offset = off) (h : Opens P f.type E) (hr : OpensF P l (off + E.size) F) : OpensF P (f :: l) off (pair E F) :=
  fun H enc w base spare held n cs hl hf => by
    obtain ⟨x, hx⟩ := hf 0 f rfl
    obtain ⟨y, hy⟩ := h.2 H enc w base spare held n _ x hx
    rw [ho, h.1] at hy
    have hl' : cs.length = off + E.size + F.size := by rw [hl]; show off + (E.size + F.size) = _; omega
    obtain ⟨z, hz⟩ := hr H enc w base spare held n cs hl' (fun i g hg => hf (i + 1) g (by simpa using hg))
    refine ⟨(y, z), _, _, ?_, hy, hz⟩
    rw [← List.drop_drop, List.take_append_drop]
theorem opens_struct {α : Type} {E : Rep α} {fs : Array Field} (ht : P.underlying t = some (.struct fs)) (hc : P.cellsOf t = E.size) (h : OpensF P fs.toList 0 E) : Opens P t E := ⟨hc, fun H enc w base spare held fuel cs x hx => by
  obtain ⟨ys, n, _, _, hlen, hyl, hf⟩ := DataW.trod_struct ht hx
  have := h H enc w base spare held n cs (by rw [hlen, hc]; omega) (fun i f hi => by
    have hi' : i < fs.size := by
      have := (List.getElem?_eq_some_iff.1 hi).1
      simpa using this
    have h2 := hf i f (by rw [← Array.getElem?_toList]; exact hi)
    rw [List.getElem?_eq_getElem (by omega)] at h2
    exact ⟨_, h2⟩)
  simpa using this⟩

/-- a parameter that is a slice -/
theorem open_sl {H : Type} {enc : TypeId × Value → H} {w : World} {base : Nat} {spare : Nat → Bool} {held : Bool} {r : Reach} {b0 : Nat} {v : Value} {d : DataW H} {p : List MemPlace} {α : Type} {E : Rep α}
    (ho : Opens P t (slice E e)) (ht : P.underlying t = some (.slice e)) (hv : Value.okWide P w r b0 t v) (h : DataW.Trod enc P w base spare held t v d p) :
    ∃ A n c xs, v = .slice A n c ∧ SlAt E w w.heap.size xs A n c := by
  obtain ⟨A, n, c, rfl⟩ := okWide_slice ht hv
  obtain ⟨fuel, hf⟩ := h
  obtain ⟨xs, A', n', c', he, hx⟩ := ho.2 H enc w base spare held fuel _ _ hf
  simp [Value.cells] at he
  obtain ⟨rfl, rfl, rfl⟩ := he
  exact ⟨A, n, c, xs, rfl, hx⟩
/-- a parameter that is a struct -/
theorem open_st {H : Type} {enc : TypeId × Value → H} {w : World} {base : Nat} {spare : Nat → Bool} {held : Bool} {r : Reach} {b0 : Nat} {v : Value} {d : DataW H} {p : List MemPlace} {α : Type} {E : Rep α} {fs : Array Field}
    (ho : Opens P t E) (ht : P.underlying t = some (.struct fs)) (hv : Value.okWide P w r b0 t v) (h : DataW.Trod enc P w base spare held t v d p) :
    ∃ (cs : List Value) (x : α), v = .agg cs.toArray ∧ E.at_ w w.heap.size x cs := by
  obtain ⟨cs, rfl, _⟩ := okWide_struct ht hv
  obtain ⟨fuel, hf⟩ := h
  obtain ⟨x, hx⟩ := ho.2 H enc w base spare held fuel _ _ hf
  exact ⟨cs.toList, x, by simp, hx⟩
end Mm
end Go.Proofs.Ytkhchfbpmmiopaa

/-
  Contracts of the functions on logs of entries that only read (chapter 7). No conditions beyond those named.
-/
namespace Go.Proofs.Ytkhchfbpmmiopaa
open Go.RowKit
attribute [local go_sem] und_cell
theorem Pl.eqE_def (x y : Entry) : Pl.eqE x y = (decide (x.Epoch = y.Epoch) && (x.Text.toList == y.Text.toList)) := rfl
theorem Pl.entsOk_bad {l : List Entry} {k : Nat} {x : Entry} (hx : l[k]? = some x) (h : entOk x = false ∨ (0 < k ∧ x.Epoch < epAt l (k - 1))) : entsOk l = false := by
  have hk := (List.getElem?_eq_some_iff.1 hx).1
  unfold entsOk
  rw [allB_no hk, Bool.false_and]
  rw [entsP_of hx]
  rcases h with h | ⟨h0, h⟩
  · rw [h, Bool.false_and]
  · have e1 : decide (k = 0) = false := by simp; omega
    have e2 : decide (epAt l (k - 1) ≤ x.Epoch) = false := by simp; omega
    rw [e1, e2]; simp
theorem Pl.entsOk_end {l : List Entry} {k : Nat} (h : ∀ i, i < k → entsP l i = true) (hk : l.length ≤ k) : entsOk l = decide (l.length ≤ 40) := by
  unfold entsOk
  rw [allB_yes (fun i hi => h i (by omega)), Bool.true_and]
end Go.Proofs.Ytkhchfbpmmiopaa

/-
  Plain functions: a rising list of numbers: a number's place, put in, taken out. No program in sight. No conditions.
-/
namespace Go.Proofs.Ytkhchfbpmmiopaa
namespace Pl
/-- how many are below k -/
def ipos (l : List Int) (k : Int) : Nat := (l.filter (fun x => decide (x < k))).length
theorem ipos_le (l : List Int) (k : Int) : ipos l k ≤ l.length := List.length_filter_le _ _
theorem ipos_split : ∀ (l : List Int) (k : Int), l.Pairwise (· < ·) → l.take (ipos l k) = l.filter (fun x => decide (x < k)) ∧ l.drop (ipos l k) = l.filter (fun x => decide (k ≤ x))
  | [], _, _ => by simp [ipos]
  | x :: t, k, h => by
    have h2 := List.pairwise_cons.1 h
    have ih := ipos_split t k h2.2
    by_cases hx : x < k
    · have e : ipos (x :: t) k = ipos t k + 1 := by unfold ipos; simp [hx]
      rw [e, List.take_succ_cons, List.drop_succ_cons, ih.1, ih.2]
      simp [hx]
    · have e0 : t.filter (fun x => decide (x < k)) = [] := by
        rw [List.filter_eq_nil_iff]
        intro y hy
        have := h2.1 y hy
        simp; omega
      have e : ipos (x :: t) k = 0 := by unfold ipos; simp [hx, e0]
      have e1 : t.filter (fun x => decide (k ≤ x)) = t := by
        rw [List.filter_eq_self]
        intro y hy
        have := h2.1 y hy
        simp; omega
      rw [e]
      refine ⟨?_, ?_⟩
      · rw [List.filter_cons_of_neg (by simpa using hx), e0]; rfl
      · rw [List.filter_cons_of_pos (by simpa using hx), e1]; rfl
theorem ipos_lt {l : List Int} {k : Int} (h : l.Pairwise (· < ·)) {i : Nat} {x : Int} (hx : l[i]? = some x) : i < ipos l k ↔ x < k := by
  obtain ⟨e1, e2⟩ := ipos_split l k h
  constructor
  · intro hi
    have : (l.take (ipos l k))[i]? = some x := by rw [List.getElem?_take, if_pos hi]; exact hx
    rw [e1] at this
    simpa using (List.mem_filter.1 (List.mem_of_getElem? this)).2
  · intro hk
    apply Classical.byContradiction
    intro hn
    have : (l.drop (ipos l k))[i - ipos l k]? = some x := by rw [List.getElem?_drop, show ipos l k + (i - ipos l k) = i by omega]; exact hx
    rw [e2] at this
    have := (List.mem_filter.1 (List.mem_of_getElem? this)).2
    simp at this
    omega
theorem ipos_of {l : List Int} {k : Int} (h : l.Pairwise (· < ·)) {p : Nat} (hp : p ≤ l.length) (h1 : ∀ i x, i < p → l[i]? = some x → x < k) (h2 : ∀ x, l[p]? = some x → k ≤ x) : ipos l k = p := by
  rcases Nat.lt_trichotomy (ipos l k) p with hq | hq | hq
  · have hx := List.getElem?_eq_getElem (show ipos l k < l.length by omega)
    have := (ipos_lt (k := k) h hx).2 (h1 _ _ hq hx)
    omega
  · exact hq
  · have := ipos_le l k
    have hx := List.getElem?_eq_getElem (show p < l.length by omega)
    have h3 := (ipos_lt (k := k) h hx).1 hq
    have := h2 _ hx
    omega
theorem mem_ipos {l : List Int} {k : Int} (h : l.Pairwise (· < ·)) : k ∈ l ↔ l[ipos l k]? = some k := by
  constructor
  · intro hk
    obtain ⟨i, hi⟩ := List.mem_iff_getElem?.1 hk
    have h1 : ¬ i < ipos l k := fun hh => by have := (ipos_lt (k := k) h hi).1 hh; omega
    by_cases e : i = ipos l k
    · rw [← e]; exact hi
    · have hl := (List.getElem?_eq_some_iff.1 hi).1
      have hx := List.getElem?_eq_getElem (show ipos l k < l.length by omega)
      have h2 : ¬ l[ipos l k]'(by omega) < k := fun hh => by have := (ipos_lt (k := k) h hx).2 hh; omega
      have h3 := List.pairwise_iff_getElem.1 h (ipos l k) i (by omega) hl (by omega)
      rw [(List.getElem?_eq_some_iff.1 hi).2] at h3
      omega
  · exact fun hk => List.mem_of_getElem? hk
theorem insI_at {l : List Int} {k : Int} (h : l.Pairwise (· < ·)) (hk : k ∉ l) : l.take (ipos l k) ++ k :: l.drop (ipos l k) = insI l k := by
  obtain ⟨e1, e2⟩ := ipos_split l k h
  rw [e1, e2]
  unfold insI
  congr 2
  apply List.filter_congr
  intro x hx
  have hne : x ≠ k := fun e => hk (e ▸ hx)
  rw [decide_eq_decide]
  omega
theorem outI_at {l : List Int} {k : Int} (h : l.Pairwise (· < ·)) (hk : k ∈ l) : l.eraseIdx (ipos l k) = outI l k := by
  obtain ⟨e1, e2⟩ := ipos_split l k h
  have h3 := (mem_ipos h).1 hk
  have hl := (List.getElem?_eq_some_iff.1 h3).1
  rw [List.eraseIdx_eq_take_drop_succ, e1]
  have e3 : l.drop (ipos l k + 1) = l.filter (fun x => decide (k < x)) := by
    have : l.drop (ipos l k + 1) = (l.filter (fun x => decide (k ≤ x))).drop 1 := by rw [← e2, List.drop_drop]
    rw [this]
    have h4 : l.filter (fun x => decide (k ≤ x)) = k :: (l.filter (fun x => decide (k ≤ x))).drop 1 := by
      have : (l.filter (fun x => decide (k ≤ x)))[0]? = some k := by rw [← e2, List.getElem?_drop]; exact h3
      cases hf : l.filter (fun x => decide (k ≤ x)) with
      | nil => rw [hf] at this; cases this
      | cons a t => rw [hf] at this; simp at this; rw [this]; rfl
    have hp := h.filter (fun x => decide (k ≤ x))
    rw [h4] at hp
    have h5 := (List.pairwise_cons.1 hp).1
    have h6 : (l.filter (fun x => decide (k ≤ x))).filter (fun x => decide (k < x)) = l.filter (fun x => decide (k < x)) := by
      rw [List.filter_filter]
      apply List.filter_congr
      intro x _
      simp; omega
    rw [← h6]
    conv => rhs; rw [h4]
    rw [List.filter_cons_of_neg (by simp)]
    symm
    rw [List.filter_eq_self]
    intro y hy
    have := h5 y hy
    simpa using this
  rw [e3]
  unfold outI
  have key : ∀ m : List Int, m.Pairwise (· < ·) → m.filter (fun x => decide (x < k)) ++ m.filter (fun x => decide (k < x)) = m.filter (fun x => x != k) := by
    intro m
    induction m with
    | nil => intro _; rfl
    | cons a t ih =>
      intro hm
      have hm2 := List.pairwise_cons.1 hm
      have ih' := ih hm2.2
      by_cases h1 : a < k
      · rw [List.filter_cons_of_pos (by simpa using h1), List.filter_cons_of_neg (by simp; omega), List.filter_cons_of_pos (by simp; omega), List.cons_append, ih']
      · have e0 : t.filter (fun x => decide (x < k)) = [] := by
          rw [List.filter_eq_nil_iff]
          intro y hy
          have := hm2.1 y hy
          simp; omega
        rw [List.filter_cons_of_neg (by simpa using h1)]
        rw [e0] at ih' ⊢
        by_cases h2 : a = k
        · subst h2
          rw [List.filter_cons_of_neg (by simp), List.filter_cons_of_neg (by simp)]
          exact ih'
        · rw [List.filter_cons_of_pos (by simp; omega), List.filter_cons_of_pos (by simpa using h2)]
          rw [List.nil_append] at ih' ⊢
          rw [ih']
  exact key l h
end Pl
end Go.Proofs.Ytkhchfbpmmiopaa

/-
  Plain functions on sketches and heavy hitters. No program in sight. No conditions.
-/
namespace Go.Proofs.Ytkhchfbpmmiopaa
namespace Pl
/-- what a sketch must be -/
def rowOk (t : Int) (r : List Int) : Bool := decide (r.length = 11) && allIn 0 100000 r && decide (sum r = t)
def sketchOk (s : Sketch) : Bool := isIn s.Rows.length 1 3 && s.Rows.all (rowOk s.Total)
theorem rowOk_iff {t : Int} {r : List Int} : rowOk t r = true ↔ r.length = 11 ∧ allIn 0 100000 r = true ∧ sum r = t := by
  unfold rowOk; simp [and_assoc]
theorem sum_bd {l : List Int} {a b : Int} (h : allIn a b l = true) (h0 : a ≤ 0) (h1 : 0 ≤ b) : a * l.length ≤ sum l ∧ sum l ≤ b * l.length := sumTo_bd h h0 h1 _
def guessTo (rows : List (List Int)) (name : List UInt8) : Nat → Int
  | 0 => 100000
  | k + 1 => if (rows.getD k []).getD (place k name).toNat 0 < guessTo rows name k then (rows.getD k []).getD (place k name).toNat 0 else guessTo rows name k
def guessOf (s : Sketch) (name : ByteArray) : Int × Bool :=
  if (sketchOk s && word false name.data.toList) = true then (guessTo s.Rows name.data.toList s.Rows.length, true) else (0, false)
theorem ba_nil {x : ByteArray} (h : x.toList = []) : x = ⟨#[]⟩ := by
  rw [Lib.toList_data] at h
  cases x with
  | mk a => simp at h; rw [h]
theorem beq_dec (a b : Int) : (a == b) = decide (a = b) := by
  by_cases h : a = b
  · subst h; simp
  · simp [h]
def strAt (l : List ByteArray) (i : Nat) : ByteArray := l.getD i ByteArray.empty
theorem strAt_of {l : List ByteArray} {i : Nat} {x : ByteArray} (h : l[i]? = some x) : strAt l i = x := by
  unfold strAt; rw [List.getD_eq_getElem?_getD, h]; rfl
theorem getD_of {l : List Int} {i : Nat} {x : Int} (h : l[i]? = some x) : l.getD i 0 = x := by
  rw [List.getD_eq_getElem?_getD, h]; rfl
/-- what is said of one place -/
def slotP (k : Nat) (x : ByteArray) (y : Int) (z : ByteArray) : Bool :=
  if x.toList = [] then decide (y = 0) else word false x.data.toList && isIn y 1 100000 && (decide (k = 0) || (Op.bytesLess z.toList x.toList && !z.toList.isEmpty))
def slotOk (h : Heavy) (i : Nat) : Bool := slotP i (strAt h.Names i) (h.Counts.getD i 0) (strAt h.Names (i - 1))
theorem slotOk_of {h : Heavy} {i : Nat} {x z : ByteArray} {y : Int} (hx : h.Names[i]? = some x) (hy : h.Counts[i]? = some y) (hz : h.Names[i - 1]? = some z) : slotOk h i = slotP i x y z := by
  unfold slotOk; rw [strAt_of hx, strAt_of hz, getD_of hy]
def heavyOk (h : Heavy) : Bool :=
  isIn (h.Names.length : Int) 1 6 && decide (h.Counts.length = h.Names.length) && isIn h.Gone 0 100000 && isIn h.Total 0 1000000 && allB h.Names.length (slotOk h) && decide (sum h.Counts + h.Gone * ((h.Names.length : Int) + 1) = h.Total)
theorem slotP_bd {k : Nat} {x z : ByteArray} {y : Int} (h : slotP k x y z = true) : 0 ≤ y ∧ y ≤ 100000 := by
  unfold slotP at h
  split at h
  · simp at h; omega
  · simp only [Bool.and_eq_true] at h
    have := isIn_iff.1 h.1.2; omega
theorem sumTo_slot {h : Heavy} : ∀ {k : Nat}, (∀ i, i < k → slotOk h i = true) → 0 ≤ sumTo h.Counts k ∧ sumTo h.Counts k ≤ 100000 * k
  | 0, _ => by simp [sumTo]
  | k + 1, hh => by
    have h1 := sumTo_slot (k := k) fun i hi => hh i (by omega)
    have h2 := slotP_bd (hh k (by omega))
    rw [sumTo]
    push_cast
    omega
theorem slots_in {h : Heavy} (hl : h.Counts.length = h.Names.length) (hh : ∀ i, i < h.Names.length → slotOk h i = true) : allIn (-1000000) 1000000 h.Counts = true := List.all_eq_true.2 fun y hy => by
  obtain ⟨i, hi, rfl⟩ := List.mem_iff_getElem.1 hy
  have h2 := slotP_bd (hh i (by omega))
  rw [getD_of (List.getElem?_eq_getElem hi)] at h2
  exact isIn_mk (by omega) (by omega)
theorem heavyOk_iff {h : Heavy} : heavyOk h = true ↔ (1 ≤ (h.Names.length : Int) ∧ (h.Names.length : Int) ≤ 6) ∧ h.Counts.length = h.Names.length ∧ (0 ≤ h.Gone ∧ h.Gone ≤ 100000) ∧ (0 ≤ h.Total ∧ h.Total ≤ 1000000) ∧ (∀ i, i < h.Names.length → slotOk h i = true) ∧ sum h.Counts + h.Gone * ((h.Names.length : Int) + 1) = h.Total := by
  unfold heavyOk; simp only [Bool.and_eq_true, decide_eq_true_eq, isIn_iff, allB_iff, and_assoc]
/-- where a text stands, counted from k -/
def idxFrom (l : List ByteArray) (v : ByteArray) : Nat → Nat → Int
  | 0, _ => -1
  | f + 1, k => if strAt l k = v then (k : Int) else idxFrom l v f (k + 1)
def idx (l : List ByteArray) (v : ByteArray) : Int := idxFrom l v l.length 0
theorem idxFrom_bd {l : List ByteArray} {v : ByteArray} : ∀ (f k : Nat), idxFrom l v f k = -1 ∨ ((k : Int) ≤ idxFrom l v f k ∧ idxFrom l v f k < (k + f : Nat))
  | 0, k => .inl rfl
  | f + 1, k => by
    unfold idxFrom
    split
    · right; omega
    · rcases idxFrom_bd (l := l) (v := v) f (k + 1) with h | h
      · exact .inl h
      · right; omega
theorem idx_bd {l : List ByteArray} {v : ByteArray} : idx l v = -1 ∨ (0 ≤ idx l v ∧ idx l v < l.length) := by
  have := idxFrom_bd (l := l) (v := v) l.length 0
  unfold idx; simp at this; omega
theorem idx_yes {l : List ByteArray} {v : ByteArray} {k n : Nat} (_hn : l.length = n) (h : idx l v = idxFrom l v (n - k) k) (hk : k < n) (he : strAt l k = v) : idx l v = k := by
  rw [h, show n - k = (n - (k + 1)) + 1 by omega, idxFrom, if_pos he]
theorem idx_no {l : List ByteArray} {v : ByteArray} {k n : Nat} (h : idx l v = idxFrom l v (n - k) k) (hk : k < n) (he : strAt l k ≠ v) : idx l v = idxFrom l v (n - (k + 1)) (k + 1) := by
  rw [h, show n - k = (n - (k + 1)) + 1 by omega, idxFrom, if_neg he]
theorem idx_end {l : List ByteArray} {v : ByteArray} {k n : Nat} (h : idx l v = idxFrom l v (n - k) k) (hk : ¬ k < n) : idx l v = -1 := by
  rw [h, show n - k = 0 by omega]; rfl
def leastOf (h : Heavy) (name : ByteArray) : Int × Int × Bool :=
  if (heavyOk h && word false name.data.toList) = true then
    if 0 ≤ idx h.Names name then (h.Counts.getD (idx h.Names name).toNat 0, h.Counts.getD (idx h.Names name).toNat 0 + h.Gone, true) else (0, h.Gone, true)
  else (0, 0, false)
def ret3 (x : Int × Int × Bool) : Ending := .returned (.tuple #[.int .i64 x.1, .int .i64 x.2.1, .bool x.2.2])
theorem rows_bd {s : Sketch} (h : sketchOk s = true) {k : Nat} {r : List Int} (hr : s.Rows[k]? = some r) : r.length = 11 ∧ allIn 0 100000 r = true ∧ sum r = s.Total := by
  unfold sketchOk at h
  rw [Bool.and_eq_true] at h
  exact rowOk_iff.1 (all_at h.2 hr)
theorem guessTo_bd {rows : List (List Int)} {name : List UInt8} (h : ∀ (k : Nat) (r : List Int), rows[k]? = some r → allIn 0 100000 r = true) : ∀ k, 0 ≤ guessTo rows name k ∧ guessTo rows name k ≤ 100000
  | 0 => by simp [guessTo]
  | k + 1 => by
    have h1 := guessTo_bd (name := name) h k
    have h2 : 0 ≤ (rows.getD k []).getD (place k name).toNat 0 := by
      rw [List.getD_eq_getElem?_getD]
      cases hr : (rows.getD k [])[(place k name).toNat]? with
      | none => exact Int.le_refl _
      | some x =>
        rw [List.getD_eq_getElem?_getD] at hr
        cases hk : rows[k]? with
        | none => rw [hk] at hr; simp at hr
        | some r =>
          rw [hk] at hr
          exact (allIn_at (h k r hk) hr).1
    unfold guessTo
    split <;> omega
theorem guessTo_next {rows : List (List Int)} {name : List UInt8} {k : Nat} {r : List Int} {x : Int} (hr : rows[k]? = some r) (hx : r[(place k name).toNat]? = some x) : guessTo rows name (k + 1) = if x < guessTo rows name k then x else guessTo rows name k := by
  rw [guessTo, List.getD_eq_getElem?_getD (l := rows), hr]
  show (if r.getD _ 0 < _ then r.getD _ 0 else _) = _
  rw [getD_of hx]
theorem guess_step {rows : List (List Int)} {name : List UInt8} {k : Nat} {x z : Int} (hz : z = guessTo rows name (max k 1)) (hn : guessTo rows name (k + 1) = if x < guessTo rows name k then x else guessTo rows name k) (hx : x ≤ 100000) :
    (x < z → x = guessTo rows name (max (k + 1) 1)) ∧ (¬ x < z → z = guessTo rows name (max (k + 1) 1)) := by
  rw [show max (k + 1) 1 = k + 1 by omega]
  by_cases hk : k = 0
  · subst hk
    rw [show max 0 1 = 0 + 1 by rfl] at hz
    rw [hz]
    rw [hn]
    show (x < (if x < (100000 : Int) then x else 100000) → x = if x < (100000 : Int) then x else 100000) ∧ _
    refine ⟨fun h => ?_, fun _ => rfl⟩
    split at h <;> omega
  · rw [show max k 1 = k by omega] at hz
    rw [hn, hz]
    exact ⟨fun h => by rw [if_pos h], fun h => by rw [if_neg h]⟩
def bump (r : List Int) (p : Nat) (many : Int) : List Int := r.set p (r.getD p 0 + many)
def addTo (rows : List (List Int)) (name : List UInt8) (many : Int) : Nat → List (List Int)
  | 0 => []
  | k + 1 => addTo rows name many k ++ [bump (rows.getD k []) (place k name).toNat many]
theorem addTo_len (rows : List (List Int)) (name : List UInt8) (many : Int) : ∀ k, (addTo rows name many k).length = k
  | 0 => rfl
  | k + 1 => by rw [addTo, List.length_append, addTo_len rows name many k]; rfl
theorem addTo_next {rows : List (List Int)} {name : List UInt8} {many : Int} {k : Nat} {r : List Int} (hr : rows[k]? = some r) : addTo rows name many (k + 1) = addTo rows name many k ++ [bump r (place k name).toNat many] := by
  rw [addTo, List.getD_eq_getElem?_getD, hr]; rfl
def bumped (s : Sketch) (name : List UInt8) (many : Int) : Sketch := ⟨addTo s.Rows name many s.Rows.length, s.Total + many⟩
def sk0 : Sketch := ⟨[], 0⟩
def addSketch (s : Sketch) (name : ByteArray) (many : Int) : Sketch × Bool :=
  if (sketchOk s && word false name.data.toList && isIn many 1 1000) = true then (if sketchOk (bumped s name.data.toList many) = true then (bumped s name.data.toList many, true) else (sk0, false)) else (sk0, false)
end Pl
end Go.Proofs.Ytkhchfbpmmiopaa

/-
  Plain functions on heavy hitters: a name added. No program in sight. No conditions.
-/
namespace Go.Proofs.Ytkhchfbpmmiopaa
namespace Pl
def lessB (x y : ByteArray) : Bool := Op.bytesLess x.toList y.toList
theorem bless_irrefl : ∀ x : List UInt8, Op.bytesLess x x = false
  | [] => rfl
  | a :: t => by rw [Op.bytesLess, bless_irrefl t]; simp
theorem bless_trans : ∀ {x y z : List UInt8}, Op.bytesLess x y = true → Op.bytesLess y z = true → Op.bytesLess x z = true
  | _, [], _, h, _ => by simp [Op.bytesLess] at h
  | _, _ :: _, [], _, h => by simp [Op.bytesLess] at h
  | [], _ :: _, _ :: _, _, _ => rfl
  | a :: x, b :: y, c :: z, h, k => by
    rw [Op.bytesLess] at h k ⊢
    simp only [Bool.or_eq_true, decide_eq_true_eq, Bool.and_eq_true, beq_iff_eq] at h k ⊢
    rcases h with h | ⟨rfl, h⟩
    · rcases k with k | ⟨rfl, k⟩
      · exact .inl (UInt8.lt_trans h k)
      · exact .inl h
    · rcases k with k | ⟨rfl, k⟩
      · exact .inl k
      · exact .inr ⟨rfl, bless_trans h k⟩
theorem bless_total : ∀ {x y : List UInt8}, x ≠ y → Op.bytesLess x y = true ∨ Op.bytesLess y x = true
  | [], [], h => absurd rfl h
  | [], _ :: _, _ => .inl rfl
  | _ :: _, [], _ => .inr rfl
  | a :: x, b :: y, h => by
    rw [Op.bytesLess, Op.bytesLess]
    simp only [Bool.or_eq_true, decide_eq_true_eq, Bool.and_eq_true, beq_iff_eq]
    by_cases hab : a = b
    · subst hab
      have : x ≠ y := fun e => h (by rw [e])
      rcases bless_total this with h1 | h1
      · exact .inl (.inr ⟨rfl, h1⟩)
      · exact .inr (.inr ⟨rfl, h1⟩)
    · rcases Nat.lt_or_gt_of_ne (fun e => hab (UInt8.toNat_inj.1 e)) with h1 | h1
      · exact .inl (.inl h1)
      · exact .inr (.inl h1)
theorem ba_inj {x v : ByteArray} (e : x.toList = v.toList) : x = v := by
  rw [Lib.toList_data, Lib.toList_data] at e
  cases x
  cases v
  exact congrArg ByteArray.mk (Array.toList_inj.1 e)
/-- names in order, then places that are free -/
structure HSort (l : List ByteArray) (m : Nat) : Prop where
  le : m ≤ l.length
  used : ∀ (i : Nat) x, i < m → l[i]? = some x → x.toList ≠ []
  free : ∀ (i : Nat) x, m ≤ i → l[i]? = some x → x.toList = []
  sort : ∀ (i j : Nat) x y, i < j → j < m → l[i]? = some x → l[j]? = some y → lessB x y = true
/-- how many of the names in order are less -/
def posF (l : List ByteArray) (x : ByteArray) : Nat → Nat → Nat
  | 0, k => k
  | f + 1, k => if (strAt l k).toList ≠ [] ∧ lessB (strAt l k) x = true then posF l x f (k + 1) else k
def posN (l : List ByteArray) (x : ByteArray) : Nat := posF l x l.length 0
theorem posF_spec (l : List ByteArray) (x : ByteArray) : ∀ (f k : Nat), k ≤ posF l x f k ∧ posF l x f k ≤ k + f ∧ (∀ t, k ≤ t → t < posF l x f k → (strAt l t).toList ≠ [] ∧ lessB (strAt l t) x = true) ∧ (posF l x f k < k + f → ¬ ((strAt l (posF l x f k)).toList ≠ [] ∧ lessB (strAt l (posF l x f k)) x = true))
  | 0, k => ⟨Nat.le_refl _, Nat.le_refl _, fun t h1 h2 => by simp only [posF] at h2; omega, fun h => by simp only [posF] at h; omega⟩
  | f + 1, k => by
    by_cases hc : (strAt l k).toList ≠ [] ∧ lessB (strAt l k) x = true
    · obtain ⟨h1, h2, h3, h4⟩ := posF_spec l x f (k + 1)
      rw [posF, if_pos hc]
      refine ⟨by omega, by omega, fun t a b => ?_, fun h => h4 (by omega)⟩
      by_cases hk : t = k
      · subst hk; exact hc
      · exact h3 t (by omega) b
    · rw [posF, if_neg hc]
      exact ⟨Nat.le_refl _, by omega, fun t a b => by omega, fun _ => hc⟩
theorem prefix_ex (P : Nat → Prop) : ∀ n, ∃ m, m ≤ n ∧ (∀ i, i < m → P i) ∧ (m = n ∨ ¬ P m)
  | 0 => ⟨0, Nat.le_refl _, fun i h => by omega, .inl rfl⟩
  | n + 1 => by
    obtain ⟨m, h1, h2, h3⟩ := prefix_ex P n
    rcases h3 with rfl | h3
    · by_cases hp : P m
      · exact ⟨m + 1, Nat.le_refl _, fun i hi => by
          by_cases h : i = m
          · subst h; exact hp
          · exact h2 i (by omega), .inl rfl⟩
      · exact ⟨m, by omega, h2, .inr hp⟩
    · exact ⟨m, by omega, h2, .inr h3⟩
def insAt {α : Type} (l : List α) (k : Nat) (x : α) : List α := (l.take k ++ x :: l.drop k).dropLast
/-- what stays when one is taken from each count -/
def lessTo (names : List ByteArray) (counts : List Int) : Nat → List (ByteArray × Int)
  | 0 => []
  | k + 1 => lessTo names counts k ++ if 1 < counts.getD k 0 then [(strAt names k, counts.getD k 0 - 1)] else []
theorem lessTo_len (names : List ByteArray) (counts : List Int) : ∀ k, (lessTo names counts k).length ≤ k
  | 0 => by simp [lessTo]
  | k + 1 => by
    have := lessTo_len names counts k
    rw [lessTo, List.length_append]
    split <;> simp <;> omega
def hless (h : Heavy) : Heavy :=
  ⟨(lessTo h.Names h.Counts h.Names.length).map (·.1) ++ List.replicate (h.Names.length - (lessTo h.Names h.Counts h.Names.length).length) ⟨#[]⟩,
   (lessTo h.Names h.Counts h.Names.length).map (·.2) ++ List.replicate (h.Names.length - (lessTo h.Names h.Counts h.Names.length).length) 0, h.Gone + 1, h.Total + 1⟩
def hadd (h : Heavy) (x : ByteArray) : Heavy :=
  if 0 ≤ idx h.Names x then ⟨h.Names, h.Counts.set (idx h.Names x).toNat (h.Counts.getD (idx h.Names x).toNat 0 + 1), h.Gone, h.Total + 1⟩
  else if (strAt h.Names (h.Names.length - 1)).toList ≠ [] then hless h
  else ⟨insAt h.Names (posN h.Names x) x, insAt h.Counts (posN h.Names x) 1, h.Gone, h.Total + 1⟩
section
variable {l : List ByteArray} {m : Nat} {x : ByteArray}
theorem HSort.of_ok {h : Heavy} (hk : heavyOk h = true) : ∃ m, HSort h.Names m := by
  obtain ⟨⟨_, _⟩, hcl, _, _, hs, _⟩ := heavyOk_iff.1 hk
  -- a name that is not free has one that is not free, and less, ahead of it
  have hstep : ∀ (i : Nat) (x : ByteArray), h.Names[i + 1]? = some x → x.toList ≠ [] → ∃ z, h.Names[i]? = some z ∧ z.toList ≠ [] ∧ lessB z x = true := fun i x hx hn => by
    have hi := (List.getElem?_eq_some_iff.1 hx).1
    have hz := List.getElem?_eq_getElem (show i < h.Names.length by omega)
    have hy := List.getElem?_eq_getElem (show i + 1 < h.Counts.length by omega)
    have h1 := hs (i + 1) hi
    rw [slotOk_of hx hy (by rw [Nat.add_sub_cancel]; exact hz)] at h1
    unfold slotP at h1
    rw [if_neg hn] at h1
    simp only [Bool.and_eq_true, Bool.or_eq_true, decide_eq_true_eq] at h1
    rcases h1.2 with h2 | h2
    · omega
    · exact ⟨_, hz, by simpa using h2.2, h2.1⟩
  have hdown : ∀ (d i : Nat) (x : ByteArray), h.Names[i + d]? = some x → x.toList ≠ [] → ∃ z, h.Names[i]? = some z ∧ z.toList ≠ [] ∧ (0 < d → lessB z x = true) := by
    intro d
    induction d with
    | zero => intro i x hx hn; exact ⟨x, hx, hn, fun h => by omega⟩
    | succ d ih =>
      intro i x hx hn
      obtain ⟨y, hy, hyn, hyx⟩ := hstep (i + d) x (by rw [← hx]; rfl) hn
      obtain ⟨z, hz, hzn, hzy⟩ := ih i y hy hyn
      refine ⟨z, hz, hzn, fun _ => ?_⟩
      rcases Nat.eq_zero_or_pos d with hd | hd
      · subst hd
        rw [Nat.add_zero, hz] at hy
        injection hy with hy
        subst hy
        exact hyx
      · exact bless_trans (hzy hd) hyx
  obtain ⟨m, h1, h2, h3⟩ := prefix_ex (fun i => ∀ x, h.Names[i]? = some x → x.toList ≠ []) h.Names.length
  refine ⟨m, h1, fun i x hi hx => h2 i hi x hx, fun i x hi hx => ?_, fun i j x y hij hj hx hy => ?_⟩
  · apply Classical.byContradiction
    intro hn
    have hil := (List.getElem?_eq_some_iff.1 hx).1
    rcases h3 with rfl | h3
    · omega
    · apply h3
      intro z hz
      obtain ⟨z', hz', hzn, _⟩ := hdown (i - m) m x (by rw [show m + (i - m) = i by omega]; exact hx) hn
      rw [hz] at hz'
      injection hz' with hz'
      rw [hz']; exact hzn
  · obtain ⟨z, hz, _, hzy⟩ := hdown (j - i) i y (by rw [show i + (j - i) = j by omega]; exact hy) (h2 j hj y hy)
    rw [hx] at hz
    injection hz with hz
    rw [hz]; exact hzy (by omega)
theorem HSort.at_ (h : HSort l m) {i : Nat} (hi : i < m) : ∃ y, l[i]? = some y ∧ strAt l i = y ∧ y.toList ≠ [] := by
  have hy := List.getElem?_eq_getElem (show i < l.length by have := h.le; omega)
  exact ⟨_, hy, strAt_of hy, h.used i _ hi hy⟩
/-- where the name belongs, among the used places -/
theorem HSort.pos (h : HSort l m) (x : ByteArray) : posN l x ≤ m ∧ (∀ t, t < posN l x → lessB (strAt l t) x = true) ∧ (∀ t, posN l x ≤ t → t < m → lessB (strAt l t) x = false) := by
  obtain ⟨_, h2, h3, h4⟩ := posF_spec l x l.length 0
  have hle : posN l x ≤ m := by
    rcases Nat.lt_or_ge m (posN l x) with hlt | hge
    · have hc := h3 m (Nat.zero_le _) hlt
      have hm : m < l.length := by unfold posN at hlt; omega
      exact absurd (h.free m _ (Nat.le_refl _) (List.getElem?_eq_getElem hm)) (by rw [← strAt_of (List.getElem?_eq_getElem hm)]; exact hc.1)
    · exact hge
  refine ⟨hle, fun t ht => (h3 t (Nat.zero_le _) ht).2, fun t ht htm => ?_⟩
  have hlen := h.le
  have hp : posN l x < m := by omega
  obtain ⟨y, hy, hys, hyn⟩ := h.at_ hp
  have hnp : lessB (strAt l (posN l x)) x = false := by
    have := h4 (by show posN l x < 0 + l.length; omega)
    change ¬ ((strAt l (posN l x)).toList ≠ [] ∧ lessB (strAt l (posN l x)) x = true) at this
    cases hb : lessB (strAt l (posN l x)) x
    · rfl
    · exact absurd ⟨by rw [hys]; exact hyn, hb⟩ this
  rcases Nat.eq_or_lt_of_le ht with rfl | hlt
  · exact hnp
  · obtain ⟨z, hz, hzs, _⟩ := h.at_ htm
    have hs := h.sort _ t y z hlt htm hy hz
    cases hb : lessB (strAt l t) x
    · rfl
    · rw [hzs] at hb
      rw [hys] at hnp
      have := bless_trans hs hb
      unfold lessB at hnp
      rw [hnp] at this
      cases this
theorem idxFrom_eq {v : ByteArray} {i : Nat} (hi : strAt l i = v) : ∀ (f k : Nat), k ≤ i → i < k + f → (∀ t, k ≤ t → t < i → strAt l t ≠ v) → idxFrom l v f k = i
  | 0, k, h1, h2, _ => by omega
  | f + 1, k, h1, h2, h3 => by
    rw [idxFrom]
    by_cases hk : strAt l k = v
    · rw [if_pos hk]
      by_cases hki : k = i
      · rw [hki]
      · exact absurd hk (h3 k (Nat.le_refl _) (by omega))
    · rw [if_neg hk]
      have : k ≠ i := fun e => hk (e ▸ hi)
      exact idxFrom_eq hi f (k + 1) (by omega) (by omega) fun t a b => h3 t (by omega) b
theorem idxFrom_none {v : ByteArray} : ∀ (f k : Nat), (∀ t, k ≤ t → t < k + f → strAt l t ≠ v) → idxFrom l v f k = -1
  | 0, _, _ => rfl
  | f + 1, k, h => by
    rw [idxFrom, if_neg (h k (Nat.le_refl _) (by omega))]
    exact idxFrom_none f (k + 1) fun t a b => h t (by omega) (by omega)
/-- what binary search finds -/
theorem HSort.found (h : HSort l m) {x : ByteArray} (hx : x.toList ≠ []) : (posN l x < m ∧ strAt l (posN l x) = x ∧ idx l x = posN l x) ∨ ((posN l x < m → strAt l (posN l x) ≠ x) ∧ idx l x = -1) := by
  obtain ⟨hp, hlt, hge⟩ := h.pos x
  have hlen := h.le
  have hne : ∀ {y : ByteArray}, lessB y x = true → y ≠ x := fun hy e => by
    subst e
    unfold lessB at hy
    rw [bless_irrefl] at hy
    cases hy
  by_cases hA : ∃ i, i < m ∧ strAt l i = x
  · obtain ⟨i, him, hix⟩ := hA
    have h1 : posN l x ≤ i := by
      rcases Nat.lt_or_ge i (posN l x) with h1 | h1
      · exact absurd hix (hne (hlt i h1))
      · exact h1
    have h2 : posN l x = i := by
      rcases Nat.eq_or_lt_of_le h1 with h2 | h2
      · exact h2
      · exfalso
        obtain ⟨y, hy, hys, _⟩ := h.at_ (show posN l x < m by omega)
        obtain ⟨z, hz, hzs, _⟩ := h.at_ him
        have h3 := h.sort _ i y z h2 him hy hz
        have h4 := hge (posN l x) (Nat.le_refl _) (by omega)
        rw [hys] at h4
        rw [← hzs, hix] at h3
        rw [h3] at h4
        cases h4
    refine .inl ⟨by omega, by rw [h2]; exact hix, ?_⟩
    rw [h2]
    exact idxFrom_eq hix _ 0 (Nat.zero_le _) (by omega) fun t _ b => hne (hlt t (by omega))
  · refine .inr ⟨fun h1 e => hA ⟨_, h1, e⟩, idxFrom_none _ 0 fun t _ b e => ?_⟩
    rcases Nat.lt_or_ge t m with h1 | h1
    · exact hA ⟨t, h1, e⟩
    · apply hx
      have hy := List.getElem?_eq_getElem (show t < l.length by omega)
      rw [← e, strAt_of hy]
      exact h.free t _ h1 hy
theorem HSort.full (h : HSort l m) (h0 : 0 < l.length) : (strAt l (l.length - 1)).toList ≠ [] ↔ m = l.length := by
  have hy := List.getElem?_eq_getElem (show l.length - 1 < l.length by omega)
  have hlen := h.le
  rw [strAt_of hy]
  constructor
  · intro hn
    apply Classical.byContradiction
    intro hm
    exact hn (h.free _ _ (by omega) hy)
  · intro hm
    exact h.used _ _ (by omega) hy
/-- where the first free place is -/
theorem HSort.idx_free (h : HSort l m) : idx l ⟨#[]⟩ = if m < l.length then (m : Int) else -1 := by
  have hne : ∀ t, t < m → strAt l t ≠ ⟨#[]⟩ := fun t ht e => by
    obtain ⟨y, _, hys, hyn⟩ := h.at_ ht
    rw [hys] at e
    subst e
    exact hyn (by rw [Lib.toList_data])
  split
  · rename_i hm
    have hy := List.getElem?_eq_getElem hm
    have he : strAt l m = ⟨#[]⟩ := by
      rw [strAt_of hy]
      exact ba_inj (by rw [h.free m _ (Nat.le_refl _) hy, Lib.toList_data])
    exact idxFrom_eq he _ 0 (Nat.zero_le _) (by omega) fun t _ b => hne t b
  · rename_i hm
    have hlen := h.le
    exact idxFrom_none _ 0 fun t _ b => hne t (by omega)
theorem insAt_len {β : Type} (l : List β) (k : Nat) (x : β) (hk : k ≤ l.length) : (insAt l k x).length = l.length := by
  unfold insAt
  rw [List.length_dropLast, List.length_append, List.length_cons, List.length_take, List.length_drop]
  omega
theorem insAt_get {β : Type} (l : List β) (k : Nat) (x : β) (hk : k ≤ l.length) (j : Nat) : (insAt l k x)[j]? = if l.length ≤ j then none else if j < k then l[j]? else if j = k then some x else l[j - 1]? := by
  unfold insAt
  rw [List.getElem?_dropLast]
  have hl : (l.take k ++ x :: l.drop k).length - 1 = l.length := by
    rw [List.length_append, List.length_cons, List.length_take, List.length_drop]; omega
  rw [hl]
  by_cases h1 : l.length ≤ j
  · rw [if_pos h1, if_neg (by omega)]
  · rw [if_neg h1, if_pos (by omega)]
    by_cases h2 : j < k
    · rw [if_pos h2, List.getElem?_append_left (by rw [List.length_take]; omega), List.getElem?_take, if_pos h2]
    · rw [if_neg h2, List.getElem?_append_right (by rw [List.length_take]; omega), List.length_take]
      by_cases h3 : j = k
      · rw [if_pos h3, h3, show k - min k l.length = 0 by omega]; rfl
      · rw [if_neg h3, show j - min k l.length = (j - 1 - k) + 1 by omega, List.getElem?_cons_succ, List.getElem?_drop]
        congr 1; omega
theorem insAt_map {β γ : Type} (f : β → γ) (l : List β) (k : Nat) (x : β) : (insAt l k x).map f = insAt (l.map f) k (f x) := by
  unfold insAt
  rw [List.map_dropLast, List.map_append, List.map_cons, List.map_take, List.map_drop]
theorem insAt_mem {β : Type} {l : List β} {k : Nat} {x y : β} (h : y ∈ insAt l k x) : y ∈ l ∨ y = x := by
  unfold insAt at h
  have h := List.dropLast_subset _ h
  rcases List.mem_append.1 h with h | h
  · exact .inl (List.mem_of_mem_take h)
  · rcases List.mem_cons.1 h with h | h
    · exact .inr h
    · exact .inl (List.mem_of_mem_drop h)
/-- all behind place i moved on by one -/
def shf {β : Type} (l : List β) (i : Nat) : List β := l.take (i + 1) ++ (l.drop i).dropLast
theorem shf_get {β : Type} (l : List β) (i : Nat) (hi : i < l.length) (j : Nat) : (shf l i)[j]? = if l.length ≤ j then none else if j ≤ i then l[j]? else l[j - 1]? := by
  unfold shf
  by_cases h1 : j ≤ i
  · rw [if_neg (by omega), if_pos h1, List.getElem?_append_left (by rw [List.length_take]; omega), List.getElem?_take, if_pos (by omega)]
  · rw [List.getElem?_append_right (by rw [List.length_take]; omega), List.length_take, List.getElem?_dropLast, List.length_drop]
    by_cases h2 : l.length ≤ j
    · rw [if_pos h2, if_neg (by omega)]
    · rw [if_neg h2, if_neg h1, if_pos (by omega), List.getElem?_drop]
      congr 1; omega
theorem shf_len {β : Type} (l : List β) (i : Nat) (hi : i < l.length) : (shf l i).length = l.length := by
  unfold shf
  rw [List.length_append, List.length_dropLast, List.length_take, List.length_drop]; omega
theorem shf_start {β : Type} (l : List β) (h0 : 0 < l.length) : shf l (l.length - 1) = l := by
  apply List.ext_getElem?
  intro j
  rw [shf_get _ _ (by omega)]
  by_cases h1 : l.length ≤ j
  · rw [if_pos h1, List.getElem?_eq_none h1]
  · rw [if_neg h1, if_pos (by omega)]
theorem shf_prev {β : Type} {l : List β} {i : Nat} (hi : i < l.length) (h0 : 0 < i) : (shf l i)[i - 1]? = l[i - 1]? := by
  rw [shf_get _ _ hi, if_neg (by omega), if_pos (by omega)]
theorem shf_next {β : Type} {l : List β} {i : Nat} {y : β} (hi : i < l.length) (h0 : 0 < i) (hy : l[i - 1]? = some y) : (shf l i).set i y = shf l (i - 1) := by
  apply List.ext_getElem?
  intro j
  by_cases hj : i = j
  · subst hj
    rw [List.getElem?_set_self (by rw [shf_len _ _ hi]; exact hi), shf_get _ _ (by omega), if_neg (by omega), if_neg (by omega), hy]
  · rw [List.getElem?_set_ne hj, shf_get _ _ hi, shf_get _ _ (by omega)]
    by_cases h1 : l.length ≤ j
    · rw [if_pos h1, if_pos h1]
    · rw [if_neg h1, if_neg h1]
      by_cases h2 : j ≤ i - 1
      · rw [if_pos h2, if_pos (by omega)]
      · rw [if_neg h2, if_neg (by omega)]
theorem shf_done {β : Type} {l : List β} {k : Nat} {x : β} (hk : k < l.length) : (shf l k).set k x = insAt l k x := by
  apply List.ext_getElem?
  intro j
  rw [insAt_get _ _ _ (by omega)]
  by_cases hj : k = j
  · subst hj
    rw [List.getElem?_set_self (by rw [shf_len _ _ hk]; exact hk), if_neg (by omega), if_neg (by omega), if_pos rfl]
  · rw [List.getElem?_set_ne hj, shf_get _ _ hk]
    by_cases h1 : l.length ≤ j
    · rw [if_pos h1, if_pos h1]
    · rw [if_neg h1, if_neg h1]
      by_cases h2 : j < k
      · rw [if_pos h2, if_pos (by omega)]
      · rw [if_neg h2, if_neg (by omega), if_neg (by omega)]
/-- what holds of a summary while it is fed -/
structure HIn (h : Heavy) (b : Int) : Prop where
  pl : 1 ≤ h.Names.length ∧ h.Names.length ≤ 6
  cl : h.Counts.length = h.Names.length
  so : ∃ m, HSort h.Names m
  cb : ∀ (i : Nat) y, h.Counts[i]? = some y → 0 ≤ y ∧ y ≤ b
  gb : 0 ≤ h.Gone ∧ h.Gone ≤ b
  tb : 0 ≤ h.Total ∧ h.Total ≤ b
theorem HIn.of_ok {h : Heavy} (hk : heavyOk h = true) : HIn h 1000000 := by
  have hs := HSort.of_ok hk
  obtain ⟨h1, h2, h3, h4, h5, _⟩ := heavyOk_iff.1 hk
  refine ⟨by omega, h2, hs, fun i y hy => ?_, by omega, by omega⟩
  have hi := (List.getElem?_eq_some_iff.1 hy).1
  have := slotP_bd (h5 i (by omega))
  rw [getD_of hy] at this
  omega
theorem HSort.ins {l : List ByteArray} {m : Nat} {x : ByteArray} (h : HSort l m) (hm : m < l.length) (hx : x.toList ≠ []) (hn : posN l x < m → strAt l (posN l x) ≠ x) : HSort (insAt l (posN l x) x) (m + 1) := by
  obtain ⟨hp, hlt, hge⟩ := h.pos x
  have hg := insAt_get l (posN l x) x (by omega)
  refine ⟨by rw [insAt_len _ _ _ (by omega)]; omega, fun i y hi hy => ?_, fun i y hi hy => ?_, fun i j y z hij hj hy hz => ?_⟩
  · rw [hg] at hy
    split at hy
    · cases hy
    · split at hy
      · exact h.used i y (by omega) hy
      · split at hy
        · injection hy with hy; subst hy; exact hx
        · exact h.used (i - 1) y (by omega) hy
  · rw [hg] at hy
    split at hy
    · cases hy
    · rw [if_neg (by omega), if_neg (by omega)] at hy
      exact h.free (i - 1) y (by omega) hy
  · rw [hg] at hy hz
    rw [if_neg (by omega)] at hy hz
    by_cases h1 : j < posN l x
    · rw [if_pos (by omega)] at hy
      rw [if_pos h1] at hz
      exact h.sort i j y z hij (by omega) hy hz
    · rw [if_neg h1] at hz
      by_cases h2 : j = posN l x
      · rw [if_pos h2] at hz
        injection hz with hz
        rw [if_pos (by omega)] at hy
        have := hlt i (by omega)
        rw [strAt_of hy] at this
        rw [← hz]; exact this
      · rw [if_neg h2] at hz
        by_cases h3 : i < posN l x
        · rw [if_pos h3] at hy
          exact h.sort i (j - 1) y z (by omega) (by omega) hy hz
        · rw [if_neg h3] at hy
          by_cases h4 : i = posN l x
          · rw [if_pos h4] at hy
            injection hy with hy
            subst hy
            have h5 := hge (j - 1) (by omega) (by omega)
            rw [strAt_of hz] at h5
            have h6 : z ≠ x := fun e => by
              rcases Nat.eq_or_lt_of_le (show posN l x ≤ j - 1 by omega) with h7 | h7
              · exact hn (by omega) (by rw [h7, strAt_of hz]; exact e)
              · obtain ⟨u, hu, hus, _⟩ := h.at_ (show posN l x < m by omega)
                have h8 := h.sort _ (j - 1) u z h7 (by omega) hu hz
                have h9 := hge (posN l x) (Nat.le_refl _) (by omega)
                rw [hus] at h9
                rw [e, h9] at h8
                cases h8
            rcases bless_total (fun e => h6 (ba_inj e)) with h7 | h7
            · unfold lessB at h5; rw [h7] at h5; cases h5
            · exact h7
          · rw [if_neg h4] at hy
            exact h.sort (i - 1) (j - 1) y z (by omega) (by omega) hy hz
theorem lessTo_sub (names : List ByteArray) (counts : List Int) : ∀ k, k ≤ names.length → ((lessTo names counts k).map (·.1)).Sublist (names.take k)
  | 0, _ => by simp [lessTo]
  | k + 1, hk => by
    have ih := lessTo_sub names counts k (by omega)
    rw [lessTo, List.map_append, List.take_succ_eq_append_getElem (by omega)]
    refine ih.append ?_
    split
    · rw [List.map_cons, List.map_nil, strAt_of (List.getElem?_eq_getElem (show k < names.length by omega))]
      exact List.Sublist.refl _
    · exact List.nil_sublist _
theorem lessTo_bd {names : List ByteArray} {counts : List Int} {b : Int} (hb : ∀ (i : Nat) y, counts[i]? = some y → 0 ≤ y ∧ y ≤ b) : ∀ k, ∀ p, p ∈ lessTo names counts k → 0 ≤ p.2 ∧ p.2 ≤ b
  | 0, p, hp => by simp [lessTo] at hp
  | k + 1, p, hp => by
    rw [lessTo] at hp
    rcases List.mem_append.1 hp with hp | hp
    · exact lessTo_bd hb k p hp
    · split at hp
      · rename_i h1
        rw [List.mem_singleton.1 hp]
        show 0 ≤ counts.getD k 0 - 1 ∧ counts.getD k 0 - 1 ≤ b
        cases hc : counts[k]? with
        | none => rw [List.getD_eq_getElem?_getD, hc] at h1; simp at h1
        | some y => rw [getD_of hc] at h1 ⊢; have := hb k y hc; omega
      · cases hp
theorem hless_len (h : Heavy) : (hless h).Names.length = h.Names.length ∧ (hless h).Counts.length = h.Names.length := by
  have := lessTo_len h.Names h.Counts h.Names.length
  unfold hless
  simp only [List.length_append, List.length_map, List.length_replicate]
  omega
theorem hless_in {h : Heavy} {b : Int} (hi : HIn h b) (hf : HSort h.Names h.Names.length) : HIn (hless h) (b + 1) := by
  have hl := lessTo_len h.Names h.Counts h.Names.length
  have hlen := hless_len h
  have h1 := hi.pl; have h2 := hi.gb; have h3 := hi.tb
  refine ⟨by rw [hlen.1]; exact hi.pl, by rw [hlen.1]; exact hlen.2, ⟨(lessTo h.Names h.Counts h.Names.length).length, ?_⟩, fun i y hy => ?_, ?_, ?_⟩
  · have hsub := lessTo_sub h.Names h.Counts h.Names.length (Nat.le_refl _)
    rw [List.take_length] at hsub
    have hpw : h.Names.Pairwise (fun x y => lessB x y = true) := by
      rw [List.pairwise_iff_getElem]
      intro i j hi' hj hij
      exact hf.sort i j _ _ hij hj (List.getElem?_eq_getElem hi') (List.getElem?_eq_getElem hj)
    have hpl := hpw.sublist hsub
    have hne : ∀ y ∈ (lessTo h.Names h.Counts h.Names.length).map (·.1), y.toList ≠ [] := fun y hy => by
      have hy := hsub.subset hy
      obtain ⟨i, hi', rfl⟩ := List.mem_iff_getElem.1 hy
      exact hf.used i _ hi' (List.getElem?_eq_getElem hi')
    have hml : ((lessTo h.Names h.Counts h.Names.length).map (·.1)).length = (lessTo h.Names h.Counts h.Names.length).length := by simp
    refine ⟨by rw [hlen.1]; exact hl, fun i y hi' hy => ?_, fun i y hi' hy => ?_, fun i j y z hij hj hy hz => ?_⟩
    · unfold hless at hy
      dsimp only at hy
      rw [List.getElem?_append_left (by rw [hml]; exact hi')] at hy
      exact hne y (List.mem_of_getElem? hy)
    · unfold hless at hy
      dsimp only at hy
      rw [List.getElem?_append_right (by rw [hml]; exact hi'), List.getElem?_replicate] at hy
      split at hy
      · injection hy with hy
        rw [← hy, Lib.toList_data]
      · cases hy
    · unfold hless at hy hz
      dsimp only at hy hz
      rw [List.getElem?_append_left (by rw [hml]; omega)] at hy hz
      obtain ⟨a1, a2⟩ := List.getElem?_eq_some_iff.1 hy
      obtain ⟨b1, b2⟩ := List.getElem?_eq_some_iff.1 hz
      rw [← a2, ← b2]
      exact List.pairwise_iff_getElem.1 hpl i j a1 b1 hij
  · unfold hless at hy
    dsimp only at hy
    have hm := List.mem_of_getElem? hy
    rcases List.mem_append.1 hm with hm | hm
    · obtain ⟨p, hp, rfl⟩ := List.mem_map.1 hm
      have := lessTo_bd hi.cb _ p hp
      omega
    · rw [(List.mem_replicate.1 hm).2]; omega
  · show 0 ≤ h.Gone + 1 ∧ h.Gone + 1 ≤ b + 1; omega
  · show 0 ≤ h.Total + 1 ∧ h.Total + 1 ≤ b + 1; omega
theorem hadd_in {h : Heavy} {b : Int} {x : ByteArray} (hi : HIn h b) (hx : x.toList ≠ []) : HIn (hadd h x) (b + 1) := by
  obtain ⟨m, hs⟩ := hi.so
  have h1 := hi.pl; have h2 := hi.gb; have h3 := hi.tb
  have hlen := hs.le
  unfold hadd
  by_cases hf : 0 ≤ idx h.Names x
  · rw [if_pos hf]
    refine ⟨hi.pl, by rw [List.length_set]; exact hi.cl, ⟨m, hs⟩, fun i y hy => ?_, by show 0 ≤ h.Gone ∧ h.Gone ≤ b + 1; omega, by show 0 ≤ h.Total + 1 ∧ h.Total + 1 ≤ b + 1; omega⟩
    dsimp only at hy
    have hbd := idx_bd (l := h.Names) (v := x)
    by_cases he : (idx h.Names x).toNat = i
    · subst he
      rw [List.getElem?_set_self (by rw [hi.cl]; omega)] at hy
      injection hy with hy
      obtain ⟨z, hz⟩ : ∃ z, h.Counts[(idx h.Names x).toNat]? = some z := ⟨_, List.getElem?_eq_getElem (by rw [hi.cl]; omega)⟩
      rw [getD_of hz] at hy
      have := hi.cb _ z hz
      omega
    · rw [List.getElem?_set_ne he] at hy
      have := hi.cb _ y hy
      omega
  · rw [if_neg hf]
    by_cases hu : (strAt h.Names (h.Names.length - 1)).toList ≠ []
    · rw [if_pos hu]
      have hm := (hs.full (by omega)).1 hu
      subst hm
      exact hless_in hi hs
    · rw [if_neg hu]
      have hm : m < h.Names.length := by
        rcases Nat.lt_or_ge m h.Names.length with h4 | h4
        · exact h4
        · exact absurd ((hs.full (by omega)).2 (by omega)) hu
      have hp := (hs.pos x).1
      have hn : posN h.Names x < m → strAt h.Names (posN h.Names x) ≠ x := by
        rcases hs.found hx with h4 | h4
        · exact absurd (by rw [h4.2.2]; omega) hf
        · exact h4.1
      refine ⟨by show 1 ≤ (insAt _ _ _).length ∧ _; rw [insAt_len _ _ _ (by omega)]; exact hi.pl, by show (insAt _ _ _).length = (insAt _ _ _).length; rw [insAt_len _ _ _ (by rw [hi.cl]; omega), insAt_len _ _ _ (by omega)]; exact hi.cl, ⟨m + 1, hs.ins hm hx hn⟩, fun i y hy => ?_, by show 0 ≤ h.Gone ∧ h.Gone ≤ b + 1; omega, by show 0 ≤ h.Total + 1 ∧ h.Total + 1 ≤ b + 1; omega⟩
      rcases insAt_mem (List.mem_of_getElem? hy) with h4 | h4
      · obtain ⟨j, hj⟩ := List.mem_iff_getElem?.1 h4
        have := hi.cb j y hj
        omega
      · omega
def addHeavy (h : Heavy) (x : ByteArray) : Heavy × Bool :=
  if (heavyOk h && word false x.data.toList) = true then (if heavyOk (hadd h x) = true then (hadd h x, true) else (⟨[], [], 0, 0⟩, false)) else (⟨[], [], 0, 0⟩, false)
/-- names fed one after the other; false where one is none -/
def feedFrom : Heavy → List ByteArray → Heavy × Bool
  | h, [] => (h, true)
  | h, x :: l => if word false x.data.toList = true then feedFrom (hadd h x) l else (⟨[], [], 0, 0⟩, false)
def hv0 (n : Nat) : Heavy := ⟨List.replicate n ⟨#[]⟩, List.replicate n 0, 0, 0⟩
def feedHeavy (n : Int) (l : List ByteArray) : Heavy × Bool :=
  if isIn n 1 6 = true ∧ l.length ≤ 200 then feedFrom (hv0 n.toNat) l else (⟨[], [], 0, 0⟩, false)
theorem hv0_in {n : Nat} (h1 : 1 ≤ n) (h6 : n ≤ 6) : HIn (hv0 n) 0 := by
  refine ⟨by unfold hv0; simp; omega, by unfold hv0; simp, ⟨0, ⟨Nat.zero_le _, fun i x h => by omega, fun i x _ hx => ?_, fun i j x y _ h => by omega⟩⟩, fun i y hy => ?_, by unfold hv0; simp, by unfold hv0; simp⟩
  · unfold hv0 at hx
    dsimp only at hx
    rw [List.getElem?_replicate] at hx
    split at hx
    · injection hx with hx; rw [← hx, Lib.toList_data]
    · cases hx
  · unfold hv0 at hy
    dsimp only at hy
    rw [List.getElem?_replicate] at hy
    split at hy
    · injection hy with hy; omega
    · cases hy
end
end Pl
end Go.Proofs.Ytkhchfbpmmiopaa
