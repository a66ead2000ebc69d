/-
  Joined texts, in build order: Ra, Rs, K3, K4, Wc, Er, Sc, Am, Cg, Hd, Cm, K5, K6, K7, K8, Rw, K9. Each part says what it proves; no conditions beyond those that a part names.
-/
import Derived.Test.YtkodfflnpalbbaaZ01
import Derived.Test.YtkodfflnpalbbaaZ02
import Derived.Test.YtkodfflnpalbbaaZ03
import Derived.Deep.AppendLies
import Derived.Deep.RegionLaw
import Derived.Deep.CutBlock
import Derived.Deep.DeepCutAuto
import Derived.Lib.Hide
import Derived.WalkSpells
import Derived.Deep.LoopGhost
/-
  Regions that draw their order and append to a slice that is owned: the plan's law on append, and the class of the worlds in which only certain blocks have turned. No program in sight. No conditions.
-/
namespace Go.Proofs.Ytkodfflnpalbbaa
open Go.RowKit
/-- a world in which only blocks of F have turned -/
structure Cha (F : List Nat) (w : World) where
  X : World
  h : Mm.Chg F w X
def cha (F : List Nat) (w : World) (x : Cha F w) : World := x.X
instance (F : List Nat) (w : World) : Nonempty (Cha F w) := ⟨⟨w, Mm.Chg.refl _ _⟩⟩
theorem cha_cell {F : List Nat} {w : World} (x : Cha F w) (a : Addr) (hn : a.block ∉ F) (h : (w.cell? a).isSome = true) : (cha F w x).cell? a = w.cell? a := by
  obtain ⟨u, hu⟩ := Option.isSome_iff_exists.1 h
  exact World.cell?_of_block (x.h.block a.block (World.block_lt_of_cell? w a hu) hn)
namespace Mm
theorem SepF.atW {F : List Nat} {w0 wr W : World} {ts : List Thing} (h : SepF F w0 wr ts) (e : wr = W) : SepF F w0 W ts := e ▸ h
theorem SepF.rot3 {F : List Nat} {w0 wr : World} {ts : List Thing} {a b c : Thing} (h : SepF F w0 wr (a :: b :: c :: ts)) : SepF F w0 wr (ts ++ [a, b, c]) := h.permE (List.perm_append_comm (l₁ := ts) (l₂ := [a, b, c]))
theorem sep_cha {F : List Nat} {w X : World} {us : List Thing} (h : SepF F w X us) : ∃ x : Cha F w, X = cha F w x := ⟨⟨X, h.chg⟩, rfl⟩
section
variable {P : Program} {F : List Nat} {w X : World} {ops : Array Oper} {o : Oper} {a : Act} {others tk : List Thing} {vals : List Value}
/-- append of one element to a slice that is owned -/
theorem app_gvq {α : Type} {E : Rep α} {e : TypeId} {xs : List α} {x : α} {cx : List Value} {v : Value} {fp : List Nat} {gb : Nat} (hgd : o.guard = none) (s y : Operand) (t : TypeId)
    (ho : o.op = .call { callee := .builtin .append, args := #[s, y], argTypes := #[t, t] }) (d : Nat) (hd : o.dst = some d) (hs : Nat.blt d a.tmps.size = true) (i : TypeInfo) (z : Value) (bytes : Nat)
    (ht : P.underlying t = some (.slice e)) (hi : P.info? e = some i) (hz : i.zero = some z) (hsize : i.size = E.size) (hby : i.bytes = bytes) (hzs : z.cells.size = E.size) (h0 : 0 < E.size)
    (hsv : a.eval s = v) (hyv : a.eval y = .slice (some ⟨gb, 0, none⟩) 1 1) (hx : ∀ W, E.own W x cx []) (h63 : xs.length + 1 ≤ maxLen) (hbytes : (xs.length + 1) * bytes ≤ 140737488355328)
    (hS : SepF F w X ([tblk gb e cx, tsl E e xs v fp] ++ others)) : wpList P ops (GvQ F w (gSl E e (xs ++ [x]) vals tk) d a.defers others) [o] a X := by
  obtain ⟨l0, ho1, hnext⟩ := hS.push0 1 rfl (Below.refl _ _) (x := x) (hx _)
  have hb : Blk X gb e cx := hS.at_ 0 rfl
  unfold wpList
  rw [if_pos (by simp [Region.wanted, hgd])]
  refine .inl (wp_append_lies _ s y t ho 0 e i z E.size bytes ht hi hz hsize hby hzs h0 v xs.length l0 hsv ho1 ⟨gb, 0, none⟩ 1 1 cx hyv (by rw [Nat.one_mul]; exact E.olen (hx X)) ?_ (E.one (hx X)) (by omega) h63 hbytes (Nat.zero_le _) _ rfl ?_)
  · have h1 := World.news_of_block hb
    simpa using h1
  · intro gg cap w4 hown1 hgrow hat hlt
    obtain ⟨fp', hs4⟩ := hnext gg cap w4 hown1 hgrow hat
    have e1 : ((a.put o.dst (.slice (some ⟨gg, 0, none⟩) (xs.length + 1) cap)).tmps.getD d undef) = .slice (some ⟨gg, 0, none⟩) (xs.length + 1) cap := by
      rw [hd]; exact put_get (by simpa [Nat.blt_eq] using hs) _
    exact ⟨rfl, by rw [hd]; rfl, _, ⟨some ⟨gg, 0, none⟩, xs.length + 1, cap, fp', e1, rfl, by show _ = _; simp⟩, hs4.tail⟩
/-- the block of the elements that are to be appended -/
def gBs (e : TypeId) (cx : List Value) : Rel := fun _ _ v ds => ∃ g, v = .slice (some ⟨g, 0, none⟩) 1 1 ∧ ds = [tblk g e cx]
theorem gBs_in {e : TypeId} {cx : List Value} {vals : List Value} {tk : List Thing} : ∃ v ds, gBs e cx vals tk v ds := ⟨_, _, 0, rfl, rfl⟩
theorem gvq_bs {e : TypeId} {cx : List Value} {g d : Nat} {df : List Deferred} {a' : Act} (h : SepF F w X others) (hg : X.heap.size = g) (hv : a'.tmps.getD d undef = .slice (some ⟨g, 0, none⟩) 1 1) (hdf : a'.defers = df) : GvQ F w (gBs e cx vals tk) d df others .normal a' (X.alloc (.cells cx.toArray e)) :=
  ⟨rfl, hdf, _, ⟨_, hv, rfl⟩, h.alloc' hg e cx⟩
end
section
variable {P : Program} {F : List Nat} {w : World} {N : Nat} {ops : Array Oper} {D : World → Prop} {rel : Nat → Option Rel} {takes : Nat → List Nat} {Q : Act → Sig → Prop} {i : Nat} {o : Oper} {rest : List Oper} {a : Act} {σ : Sig}
/-- an operation that takes what operations j and k gave -/
theorem give_op2 {R : Rel} (d j k : Nat) (hw : Region.wanted o (yielded ops a.tmps) = true) (hr : rel i = some R) (hd : o.dst = some d) (hs : Nat.blt d a.tmps.size = true) (hi : Nat.ble i N = true) (ht : takes i = [j, k]) (hjk : (j == k) = false) (hj : Nat.ble j N = true) (hk : Nat.ble k N = true)
    (tj tk : List Thing) (htj : σ j = tj) (htk : σ k = tk)
    (hin : ∃ v ds, R (o.op.operands.toList.map a.eval) (tj ++ tk) v ds)
    (h : ∀ others X, SepF F w X ((tj ++ tk) ++ others) → wpList P ops (GvQ F w (R (o.op.operands.toList.map a.eval) (tj ++ tk)) d a.defers others) [o] a X)
    (hnext : ∀ v ds, R (o.op.operands.toList.map a.eval) (tj ++ tk) v ds → wpGive P ops (GC F w N) D rel takes Q (i + 1) rest (a.put (some d) v) (sigUpd takes σ i ds)) : wpGive P ops (GC F w N) D rel takes Q i (o :: rest) a σ := by
  have e : (takes i).flatMap σ = tj ++ tk := by rw [ht, ← htj, ← htk]; simp
  refine give_op d hw hr hd (by simpa [Nat.blt_eq] using hs) (Nat.le_of_ble_eq_true hi) (by rw [ht]; exact List.nodup_cons.2 ⟨fun h => by rw [List.mem_singleton.1 h] at hjk; simp at hjk, by simp⟩) (by
      rw [ht]; intro x hx
      rcases List.mem_cons.1 hx with rfl | hx
      · exact Nat.le_of_ble_eq_true hj
      · rw [List.mem_singleton.1 hx]; exact Nat.le_of_ble_eq_true hk) ?_ ?_ ?_
  · rw [e]; exact hin
  · rw [e]; exact h
  · rw [e]; exact hnext
end
/-- append of one element, its block just laid, in a region in the order of the text -/
theorem app_list {P : Program} {F : List Nat} {w0 wr : World} {ts : List Thing} {ops : Array Oper} {rest : List Oper} {o : Oper} {a : Act} {Q : Exit → Act → World → Prop} {α : Type} {E : Rep α} {e : TypeId} {xs : List α} {x : α} {cx : List Value} {v : Value} {fp : List Nat} {m : Nat}
    (hS : SepF F w0 wr ts) (k : Nat) (hk : ts[k]? = some (tsl E e xs v fp)) (hgd : o.guard = none) (s y : Operand) (t : TypeId)
    (ho : o.op = .call { callee := .builtin .append, args := #[s, y], argTypes := #[t, t] }) (i : TypeInfo) (z : Value) (bytes : Nat)
    (ht : P.underlying t = some (.slice e)) (hi : P.info? e = some i) (hz : i.zero = some z) (hsize : i.size = E.size) (hby : i.bytes = bytes) (hzs : z.cells.size = E.size) (h0 : 0 < E.size)
    (hsv : a.eval s = v) (hyv : a.eval y = .slice (some ⟨wr.heap.size, 0, none⟩) 1 1) (hx : ∀ W, E.own W x cx []) (hm : xs.length = m) (h63 : m + 1 ≤ maxLen) (hbytes : (m + 1) * bytes ≤ 140737488355328)
    (h : ∀ g cap w' fp', SepF F w0 w' (ts.set k (tsl E e (xs ++ [x]) (.slice (some ⟨g, 0, none⟩) (m + 1) cap) fp')) → wpList P ops Q rest (a.put o.dst (.slice (some ⟨g, 0, none⟩) (m + 1) cap)) w') :
    wpList P ops Q (o :: rest) a (wr.alloc (.cells cx.toArray e)) := by
  subst hm
  obtain ⟨l0, ho1, hnext⟩ := hS.push0 k hk (W2 := wr.alloc (.cells cx.toArray e)) (below_new (Below.refl _ _) _) (x := x) (hx _)
  have hb : Blk (wr.alloc (.cells cx.toArray e)) wr.heap.size e cx := Blk.new _ _ _
  refine wpList_append_lies _ hgd s y t ho 0 e i z E.size bytes ht hi hz hsize hby hzs h0 v xs.length l0 hsv ho1 ⟨wr.heap.size, 0, none⟩ 1 1 cx hyv (by rw [Nat.one_mul]; exact E.olen (hx wr)) ?_ (E.one (hx wr)) (by omega) h63 hbytes (Nat.zero_le _) _ rfl ?_
  · have h1 := World.news_of_block hb
    simpa using h1
  · intro gg cap w4 hown1 hgrow hat hlt
    obtain ⟨fp', hs4⟩ := hnext gg cap w4 hown1 hgrow hat
    exact h gg cap w4 fp' hs4
end Mm
end Go.Proofs.Ytkodfflnpalbbaa

/-
  Regions that draw their order and give: a store among the operations of the plan (it yields no value; the block that it stores into is taken and given back). No program in sight. No conditions.
-/
namespace Go.Proofs.Ytkodfflnpalbbaa
open Go.RowKit
namespace Mm
section
variable {P : Program} {F : List Nat} {w : World} {N : Nat} {ops : Array Oper} {D : World → Prop} {rel : Nat → Option Rel} {takes : Nat → List Nat} {Q : Act → Sig → Prop} {i : Nat} {o : Oper} {rest : List Oper} {a : Act} {σ : Sig}
def GvQn (F : List Nat) (w : World) (r : List Thing → Prop) (df : List Deferred) (rest : List Thing) (x : Exit) (a' : Act) (w' : World) : Prop :=
  x = .normal ∧ a'.defers = df ∧ ∃ ds, r ds ∧ SepF F w w' (ds ++ rest)
theorem gvalid_none {r : Value → List Thing → Prop} {r' : List Thing → Prop} (hr : ∀ u ds, r' ds → r u ds) (hd : o.dst = none) (hw : Region.wanted o (yielded ops a.tmps) = true) (hi : i ≤ N) (hn : (takes i).Nodup) (hk : ∀ k ∈ takes i, k ≤ N)
    (h : ∀ others X, SepF F w X ((takes i).flatMap σ ++ others) → wpList P ops (GvQn F w r' a.defers others) [o] a X) : GValid P (GC F w N) takes i o a σ r := by
  intro σ' X hC hag
  have e4 : (takes i).flatMap σ' = (takes i).flatMap σ := by
    rw [List.flatMap_def, List.flatMap_def]; exact congrArg List.flatten (List.map_congr_left hag)
  have h0 : SepF F w X (sigAll N σ') := hC
  have h1 := h0.sigTake hn hk
  rw [e4] at h1
  have h2 := h _ X h1
  have fin : ∀ u w', GvQn F w r' a.defers (sigAll N (sigUpd takes σ' i [])) .normal (a.put o.dst u) w' → ∃ ds, r u ds ∧ GC F w N (sigUpd takes σ' i ds) w' := fun u w' ⟨_, _, ds, h3, h4⟩ =>
    ⟨ds, hr u ds h3, h4.permE (sigAll_upd hi)⟩
  unfold wpList at h2
  rw [if_pos hw] at h2
  have h3 : o.wp P a X (fun a' w' => GvQn F w r' a.defers (sigAll N (sigUpd takes σ' i [])) .normal a' w') (GvQn F w r' a.defers (sigAll N (sigUpd takes σ' i []))) := by
    first
      | exact h2
      | exact h2.elim id fun h => by obtain ⟨_, a', w', h, _⟩ := h; cases h
  unfold Oper.wp at h3
  generalize (execOp a.eval o).run P X = R at *
  cases R with
  | ok n w' =>
    cases n <;> simp only [Oper.upon] at h3 <;> simp only [ups] <;> first | exact fin _ _ h3 | skip
    · refine h3.mono fun e w'' he => ?_
      cases e with
      | returned v => exact ⟨v, rfl, fin _ _ he⟩
      | panicked c => exact absurd he.1 (by simp)
      | outgrown => obtain ⟨a', w', h, _⟩ := he; cases h
    · have := h3.2.1
      rw [hd] at this
      exact absurd this (by simp [Act.put])
    · exact Rows.mono h3 fun v w'' he => fin _ _ he
  | halt x w' => cases x <;> simp only [Oper.upon] at h3; exact absurd h3.1 (by simp)
/-- what a store of a struct gives: the block, written anew -/
def gSto (T : TypeId) : Rel := fun vals _ _ ds => ∃ g cs, vals = [.pointer (some ⟨g, 0, none⟩), .agg cs.toArray] ∧ ds = [tblk g T cs]
/-- a store into the block that operation k gave -/
theorem give_store (T : TypeId) (g : Nat) (cs0 cs : List Value) (k : Nat) (hw : Region.wanted o (yielded ops a.tmps) = true) (hr : rel i = some (gSto T)) (hd : o.dst = none) (hi : Nat.ble i N = true) (ht : takes i = [k]) (hk : Nat.ble k N = true)
    (htk : σ k = [tblk g T cs0]) (hv : o.op.operands.toList.map a.eval = [.pointer (some ⟨g, 0, none⟩), .agg cs.toArray])
    (h : ∀ others X, SepF F w X (tblk g T cs0 :: others) → wpList P ops (GvQn F w (fun ds => ds = [tblk g T cs]) a.defers others) [o] a X)
    (hnext : wpGive P ops (GC F w N) D rel takes Q (i + 1) rest a (sigUpd takes σ i [tblk g T cs])) : wpGive P ops (GC F w N) D rel takes Q i (o :: rest) a σ := by
  have e : (takes i).flatMap σ = [tblk g T cs0] := by rw [ht, ← htk]; simp
  refine give_rel hw hr (gvalid_none (r' := fun ds => ds = [tblk g T cs]) (fun u ds h => ?_) hd hw (Nat.le_of_ble_eq_true hi) (by rw [ht]; simp) (by rw [ht]; intro x hx; rw [List.mem_singleton.1 hx]; exact Nat.le_of_ble_eq_true hk) ?_) ?_ ?_
  · exact ⟨g, cs, hv, h⟩
  · rw [e]; exact h
  · exact ⟨undef, _, g, cs, hv, rfl⟩
  · rintro v ds ⟨g', cs', hv', rfl⟩
    have h1 := hv.symm.trans hv'
    injection h1 with h2 h3
    injection h3 with h4 _
    injection h2 with h5
    injection h5 with h6
    injection h6 with h7
    injection h4 with h8
    have h9 : cs = cs' := by simpa using congrArg Array.toList h8
    subst h7 h9
    rw [hd]
    exact hnext
end
end Mm
end Go.Proofs.Ytkodfflnpalbbaa

/-
  Contract: (*Head).take: a measurement put into an element of a slice of heads. No conditions beyond those named.
-/
namespace Go.Proofs.Ytkodfflnpalbbaa
open Go.RowKit
attribute [local go_sem] und_cell cha_cell World.cell?_alloc_some
/-- slices.Insert of a row without samples, the slice and the row's block things of the call -/
theorem insRowT_c {F : List Nat} {w0 W : World} {ts : List Mm.Thing} {i j n c vb k : Nat} {A : Option Addr} {xs : List Row} {s : ByteArray} {fp : List Nat} (h : Mm.SepF F w0 W ts) (hij : i ≠ j) (hi : ts[i]? = some (Mm.tsl rRow 83 xs (.slice A n c) fp)) (hj : ts[j]? = some (Mm.tblk vb 83 [.string s, .slice none 0 0])) (hk : k ≤ n) (hn : n ≤ 1000) (hs : s.size ≤ maxLen) :
    Calls Try.prog 62 #[.slice A n c, .int .i64 k, .slice (some ⟨vb, 0, none⟩) 1 1] W fun e w' => ∃ A' n' c' fp', e = .returned (.slice A' n' c') ∧ n' = n + 1 ∧ Mm.SepF F w0 w' (ts.set i (Mm.tsl rRow 83 (Mm.insertAt xs k ⟨s, []⟩) (.slice A' n' c') fp')) := by
  have hb : Mm.Blk W vb 83 [.string s, .slice none 0 0] := h.at_ j hj
  have hso : Mm.SlOwn rRow 83 W xs (.slice A n c) fp := h.at_ i hi
  have hxl : xs.length = n := by obtain ⟨_, _, _, hv, q1, _⟩ := hso.form; injection hv with _ q2 _; exact (q2.trans q1).symm
  have h1 := h.add (Below.refl _ _) (t := Mm.tnil) trivial List.nodup_nil (fun b hb => by cases hb)
  obtain ⟨lc, ho, h1c, hnext⟩ := h1.insert (i + 1) 0 (by omega) (k := k) hi (by omega) rfl (Below.refl _ _) (x := ⟨s, []⟩) (cx := [.string s, .slice none 0 0]) (fun W _ => rRow_own_mk (x := ⟨s, []⟩) hs Mm.SlOwn.nil)
  rw [hxl] at ho hnext
  refine (insRow_c lc [.string s, .slice none 0 0] n k vb A c W ho hk hn rfl (fun j u hj => hb.cell hj) (by simp [Value.oneCell']) h1c (fun g hg => ?_) (Mm.shape_blk hb) (fun j => hb.frozen _) hb.lt).mono ?_
  · subst hg
    intro e
    exact h.apart hi hj hij vb (by show vb ∈ fp; rw [e]; exact hso.mem_block) (by simp [Mm.tblk])
  · rintro e w' ⟨A', n', c', rfl, hrow, hgrow, hat⟩
    obtain ⟨fp', hs7⟩ := hnext _ w' (by rw [List.append_assoc]; exact hrow) hgrow (hat.imp id (fun h g hg => by rw [h] at hg; injection hg with hg; omega))
    have hS : Mm.SepF F w0 w' (ts.set i (Mm.tsl rRow 83 (Mm.insertAt xs k ⟨s, []⟩) (.slice A' n' c') fp')) := by
      have h9 := hs7
      rw [List.set_cons_zero, List.set_cons_succ] at h9
      exact h9.tail
    have hlt : i < ts.length := (List.getElem?_eq_some_iff.1 hi).1
    obtain ⟨_, _, _, hv, q1, _⟩ := (hS.sl i (List.getElem?_set_self hlt)).form
    injection hv with _ q2 _
    exact ⟨A', n', c', fp', rfl, by rw [q2, q1, Mm.insertAt_len, hxl], hS⟩
end Go.Proofs.Ytkodfflnpalbbaa

/-
  Contract: (*Head).take: a measurement put into an element of a slice of heads. No conditions beyond those named.
-/
namespace Go.Proofs.Ytkodfflnpalbbaa
open Go.RowKit
attribute [local go_sem] und_cell cha_cell World.cell?_alloc_some
theorem Try.infoSmpK : (Try.prog.info? 89).map (fun i => (i.zero, i.size, i.bytes)) = some (some (.agg #[.int .i64 0, .int .i64 0]), 2, 16) := by kernel_rfl
theorem Mm.insertAt_self {α : Type} {l : List α} {k : Nat} (x : α) (hk : k ≤ l.length) : (Mm.insertAt l k x)[k]? = some x := by
  unfold Mm.insertAt
  rw [List.getElem?_append_right (by rw [List.length_take]; omega), List.length_take, Nat.min_eq_left hk, Nat.sub_self]
  rfl
theorem Mm.insertAt_set {α : Type} {l : List α} {k : Nat} (x y : α) (hk : k ≤ l.length) : (Mm.insertAt l k x).set k y = Mm.insertAt l k y := by
  unfold Mm.insertAt
  rw [List.set_append_right _ _ (by rw [List.length_take]; omega), List.length_take, Nat.min_eq_left hk, Nat.sub_self]
  rfl
/-- what take is asked for -/
structure TakeIn (x : Say) (xs : List Head) (n k : Nat) (h : Head) : Prop where
  hk : xs[k]? = some h
  hw : Pl.HW h
  off : 0 ≤ h.Offset ∧ h.Offset ≤ 1000000
  hn : n ≤ 1000
  nm : x.Name.size ≤ maxLen
  at_ : Mm.I64 x.At
  val : Mm.I64 x.Value
def TakeAns (x : Say) (xs : List Head) (g n c k : Nat) (h : Head) (fp : List Nat) (w : World) (e : Ending) (w' : World) : Prop :=
  e = .returned (.int .i64 (Pl.takeS h x).2) ∧ ∃ fp', Mm.SepF fp w w' [Mm.tsl rHead 35 (xs.set k (Pl.takeS h x).1) (.slice (some ⟨g, 0, none⟩) n c) fp']
set_option maxRecDepth 100000 in
set_option maxHeartbeats 4000000 in
theorem take_c (x : Say) (xs : List Head) (g n c k : Nat) (fp : List Nat) (h : Head) (w : World) (hs : Mm.SlOwn rHead 35 w xs (.slice (some ⟨g, 0, none⟩) n c) fp) (hnd : fp.Nodup) (hin : TakeIn x xs n k h) :
    Calls Try.prog 52 #[.pointer (some ⟨g, k * 2, none⟩), .agg #[.string x.Name, .int .i64 x.At, .int .i64 x.Value]] w (TakeAns x xs g n c k h fp w) := by
  have HS0 : Hid (Mm.SepF fp w w [Mm.tsl rHead 35 xs (.slice (some ⟨g, 0, none⟩) n c) fp]) := Mm.SepF.one (Mm.tsl rHead 35 xs (.slice (some ⟨g, 0, none⟩) n c) fp) w hs hnd
  have HIN := Lib.hid hin
  have HXL : Hid (k < xs.length) := (List.getElem?_eq_some_iff.1 hin.hk).1
  have hf0 := hin.off.1
  have hf1 := hin.off.2
  have HI := Lib.hid (show Mm.I64 x.At ∧ Mm.I64 x.Value from ⟨hin.at_, hin.val⟩)
  clear hs hnd hin
  obtain ⟨gs, hgs⟩ : ∃ gs, w.heap.size = gs := ⟨_, rfl⟩
  obtain ⟨W1, hW1⟩ : ∃ W1, w.alloc (.cells #[.string x.Name, .int .i64 x.At, .int .i64 x.Value] 61) = W1 := ⟨_, rfl⟩
  have HS1 := Lib.hid ((HS0.out.alloc' hgs 61 [.string x.Name, .int .i64 x.At, .int .i64 x.Value]).atW hW1)
  go_enter Try.func52, Try.ntmps52
  go_upto_region 1 with fail
  clear hW1 hgs HS0
  obtain ⟨A, m, d, fx, e0, e1, -, -, -, -, hio, -, -⟩ := HS1.out.headRows 1 rfl HIN.out.hk
  have z1 := (HS1.out.sl 1 rfl).frozen (k * 2 + 1)
  obtain ⟨o1, ho1⟩ : ∃ o1, h.Offset + 1 = o1 := ⟨_, rfl⟩
  have f1 : IntKind.i64.wrap (h.Offset + 1) = o1 := by rw [IntWalk.i64_in _ (by omega)]; exact ho1
  have hI1 : Mm.I64 o1 := by unfold Mm.I64; omega
  go_upto_region 2 with fail
  obtain ⟨W2, hW2⟩ : ∃ W2, W1.setCell ⟨g, k * 2 + 1, none⟩ (.int .i64 o1) = W2 := ⟨_, rfl⟩
  have HS2 := Lib.hid ((HS1.out.headOff 1 rfl HIN.out.hk hI1).atW hW2)
  rw [hW2]
  have HO1 := Lib.hid ho1
  have HK1 : Hid ((xs.set k ⟨h.Rows, o1⟩)[k]? = some ⟨h.Rows, o1⟩) := Lib.hid (List.getElem?_set_self HXL.out)
  clear hW2 HS1 z1 e0 e1 f1 ho1 hI1 hio A m d fx
  obtain ⟨A, m, d, fx, e0, -, hml, hso, -, -, -, -, -⟩ := HS2.out.headRows 1 rfl HK1.out
  obtain ⟨p, hp⟩ : ∃ p, Pl.rpos x.Name h.Rows = p := ⟨_, rfl⟩
  have hpm : p ≤ m := by rw [hml, ← hp]; exact Pl.rpos_le _ _
  have HML : Hid (m = h.Rows.length) := hml
  have hm8 : m ≤ 8 := by rw [hml]; exact HIN.out.hw.len
  have CF := find_c h.Rows x.Name A m d g (k * 2) W2 W2.heap.size (hso.weak hso.olt) (Nat.le_refl _) (by omega) HIN.out.hw.srt e0
  rw [hp] at CF
  have HP := Lib.hid hp
  have s0 := HS2.out.cell (k := 0) 0 rfl rfl
  clear hml hso hp
  go_upto_region 3 with (go_at_call 61; (with_reducible refine CF.mono ?_); clear CF; rintro e w3 ⟨fd, rfl, hfd, hb3⟩; (have HS3 := Lib.hid (HS2.out.step hb3)); (have HFD := Lib.hid hfd); clear hb3 s0 e0 hfd)
  clear HS2
  cases fd with
  | false =>
    have HMS : Hid (Pl.takeS h x = Pl.missS h p x) := Lib.hid (by rw [← HP.out]; exact Pl.takeS_miss (fun o ho he => by rw [HP.out] at ho; exact absurd (HFD.out.2 ⟨o, ho, he⟩) (by simp)))
    obtain ⟨A', m', d', fx', e0, e1, hml, hso, hfn, hfx, hio, hst, -⟩ := HS3.out.headRows 1 rfl HK1.out
    obtain rfl : m = m' := HML.out.trans (show m' = h.Rows.length from hml).symm
    clear hml
    by_cases h8 : m = 8
    · as_aux_lemma =>
      have HF : Hid (Pl.takeS h x = (⟨h.Rows, o1⟩, 4)) := Lib.hid (by rw [HMS.out, ← HO1.out]; exact if_pos (by have := HML.out; omega))
      have f8 : ((m : Int) == 8) = true := by rw [h8]; rfl
      clear hso hst hfn hfx hio e1
      go_wp2
      go_ret
      exact ⟨ret_int (by rw [HF.out]), _, by rw [HF.out]; exact HS3.out.sel [1] (by decide) rfl⟩
    · as_aux_lemma =>
      have HF : Hid (Pl.takeS h x = (⟨Mm.insertAt h.Rows p ⟨x.Name, [⟨x.At, x.Value⟩]⟩, o1⟩, 1)) := Lib.hid (by rw [HMS.out, ← HO1.out]; exact if_neg (by have := HML.out; omega))
      have f8 : ((m : Int) == 8) = false := by rw [beq_eq_false_iff_ne]; omega
      go_upto_region 6 with fail
      have n0' : g ∉ fx' := fun hh => (hfx _ hh).2 rfl
      have n1' : gs ∉ fx' := fun hh => HS3.out.apart (i := 0) (j := 1) rfl rfl (by decide) gs (by simp [Mm.tblk]) (hfx _ hh).1
      have s0 := HS3.out.cell (k := 0) 0 rfl rfl
      have hlt0 : g < w3.heap.size := (HS3.out.sl 1 rfl).olt g (HS3.out.sl 1 rfl).mem_block
      have z3 := (HS3.out.sl 1 rfl).frozen (k * 2)
      have HGO := Lib.hid (And.intro hso hfn)
      have HNX := Lib.hid hst
      have ec := e0
      clear hso hfn hst hfx hio e1
      refine Mm.wp_region_give 13 (fun i => match i with | 9 => some (Mm.gBs 83 [.string x.Name, .slice none 0 0]) | 10 => some (Mm.gSl rRow 83 (Mm.insertAt h.Rows p ⟨x.Name, []⟩)) | _ => none) (fun i => match i with | 10 => [9, 14] | _ => []) (fun i => match i with | 14 => [Mm.tsl rRow 83 h.Rows (.slice A' m d') fx'] | _ => []) (F := fx') (D := fun w' => ∃ z : Cha fx' w3, w' = cha fx' w3 z) (fun X us h => Mm.sep_cha h) (by kernel_rfl) (by kernel_rfl) (by kernel_rfl) (Mm.sep_eq ((Mm.SepF.one (Mm.tsl rRow 83 h.Rows (.slice A' m d') fx') w3 HGO.out.1 HGO.out.2).step (Below.refl _ _).drew) rfl) ?_
      repeat (refine Mm.give_det (by rfl) (by rfl) (by rfl) (fun K hK => ?_); go_big_quiet_op; refine hK _ ?_; clear hK K)
      refine Mm.give_op0 41 (by rfl) rfl (by rfl) (by rfl) (by rfl) (by rfl) Mm.gBs_in (fun others X6 hX6 => ?_) ?_
      · go_wp2
        exact Mm.gvq_bs hX6 rfl rfl rfl
      rintro v ds ⟨gb, rfl, rfl⟩
      simp only [Act.put, List.setIfInBounds_toArray, List.set_cons_succ, List.set_cons_zero]
      refine Mm.give_op2 42 9 14 (by rfl) rfl (by rfl) (by rfl) (by rfl) rfl (by rfl) (by rfl) (by rfl) _ _ rfl rfl Mm.gSl_in (fun others X6 hX6 => ?_) ?_
      · go_wp2_with (go_at_call 62; (with_reducible refine (insRowT_c (i := 1) (j := 0) hX6 (by decide) rfl rfl hpm (by omega) HIN.out.nm).mono ?_); rintro e w5 ⟨A5, n5, c5, fp5, rfl, rfl, hS5⟩)
        exact ⟨rfl, rfl, _, ⟨_, _, _, fp5, rfl, rfl, Lib.hid (by rw [Mm.insertAt_len]; have := HML.out; omega)⟩, (hS5.tail)⟩
      rintro v ds ⟨A6, n6, c6, f6, rfl, rfl, hn6⟩
      simp only [Act.put, List.setIfInBounds_toArray, List.set_cons_succ, List.set_cons_zero]
      repeat (refine Mm.give_det (by rfl) (by rfl) (by rfl) (fun K hK => ?_); go_big_quiet_op; refine hK _ ?_; clear hK K)
      refine Mm.give_nil ?_
      rintro X6 hX6
      have hx6 : Mm.SepF fx' w3 X6 [Mm.tsl rRow 83 (Mm.insertAt h.Rows p ⟨x.Name, []⟩) (.slice A6 n6 c6) f6] := Mm.sep_eq hX6 rfl
      obtain ⟨fp7, hs7⟩ := HNX.out X6 _ _ _ _ _ hx6
      have ec6 : X6.cell? ⟨g, k * 2, none⟩ = some (.slice A' m d') := (World.cell?_of_block (hx6.chg.block g hlt0 n0')).trans ec
      have z36 : X6.frozen? ⟨g, k * 2, none⟩ = false := (World.frozen?_of_block (hx6.chg.block g hlt0 n0')).trans z3
      have HS7 := Lib.hid hs7
      clear hX6 hx6 hs7 n0' n1' ec e0 z3 hlt0 HNX HGO s0
      go_upto_region 7 with fail
      clear ec6 z36
      obtain ⟨XT, hXT⟩ : ∃ XT, X6.setCell ⟨g, k * 2, none⟩ (.slice A6 n6 c6) = XT := ⟨_, rfl⟩
      rw [hXT] at HS7 ⊢
      clear hXT
      have hpl : p ≤ h.Rows.length := by rw [← HML.out]; exact hpm
      obtain ⟨rows2, hr2⟩ : ∃ rows2, Mm.insertAt h.Rows p ⟨x.Name, []⟩ = rows2 := ⟨_, rfl⟩
      obtain ⟨r, hrr⟩ : ∃ r : Row, (⟨x.Name, []⟩ : Row) = r := ⟨_, rfl⟩
      have HR2 : Hid (rows2[p]? = some r) := Lib.hid (by rw [← hr2, ← hrr]; exact Mm.insertAt_self _ hpl)
      have HK8 : Hid (rows2.length ≤ 1000) := Lib.hid (by rw [← hr2, Mm.insertAt_len]; have := HML.out; omega)
      have HS0' : Hid (r.Samples.length = 0) := Lib.hid (by rw [← hrr]; rfl)
      have HS40 : Hid (r.Samples.length ≤ 40) := Lib.hid (by rw [HS0'.out]; omega)
      have HE : Hid ((⟨rows2.set p ⟨r.Name, r.Samples ++ [⟨x.At, x.Value⟩]⟩, o1⟩ : Head) = (Pl.takeS h x).1) := Lib.hid (by rw [HF.out, ← hr2, ← hrr, Mm.insertAt_set _ _ hpl]; rfl)
      have HCD : Hid ((Pl.takeS h x).2 = 1) := Lib.hid (by rw [HF.out])
      have HS : Hid (Mm.SepF fp w XT [Mm.tblk gs 61 [.string x.Name, .int .i64 x.At, .int .i64 x.Value], Mm.tsl rHead 35 (xs.set k ⟨rows2, o1⟩) (.slice (some ⟨g, 0, none⟩) n c) fp7]) := Lib.hid (by
        have h9 := HS7.out
        rw [hr2] at h9
        have h8 : Mm.SepF fp w XT [Mm.tblk gs 61 [.string x.Name, .int .i64 x.At, .int .i64 x.Value], Mm.tsl rHead 35 ((xs.set k ⟨h.Rows, o1⟩).set k ⟨rows2, o1⟩) (.slice (some ⟨g, 0, none⟩) n c) fp7] := h9
        rw [List.set_set] at h8
        exact h8)
      have HK2 : Hid ((xs.set k ⟨rows2, o1⟩)[k]? = some ⟨rows2, o1⟩) := Lib.hid (List.getElem?_set_self HXL.out)
      clear hr2 hrr HS7 HS3 HK1 f8 h8
      obtain ⟨A6, m6, c6, fx, e0, -, hml, hso, hfn, hfx, -, -, hsame⟩ := HS.out.headRows 1 rfl HK2.out
      have hm6p : p < m6 := by rw [hml]; exact (List.getElem?_eq_some_iff.1 HR2.out).1
      have hm6n : m6 ≤ 1000 := by rw [hml]; exact HK8.out
      obtain ⟨g2, rfl, -, -⟩ := Mm.sl_addr hso (by show 0 < rows2.length; have h7 : m6 = rows2.length := hml; omega)
      have HJ := Lib.hid (Mm.SepF.one (Mm.tsl rRow 83 rows2 (.slice (some ⟨g2, 0, none⟩) m6 c6) fx) XT hso hfn)
      obtain ⟨As, ms, ds, fx2, r0, r1, hsl, hso2, hfn2, hfx2, hrow⟩ := HJ.out.rowSam 0 rfl HR2.out
      have HSAME := Lib.hid hsame
      have HROW := Lib.hid hrow
      have HSO2 := Lib.hid (And.intro hso2 hfn2)
      have HSL : Hid (ms = r.Samples.length) := hsl
      have HFX : Hid (∀ b, b ∈ fx2 → b ∈ fp7) := Lib.hid (fun b hb => (hfx _ (hfx2 b hb).1).1)
      have zr := hso.frozen (p * 2 + 1)
      have hg2 : g2 ∉ fx2 := fun hh => (hfx2 _ hh).2 rfl
      have hg2l : g2 < XT.heap.size := hso.olt g2 hso.mem_block
      have f2 : (0 : Int) ≤ (p : Nat) := by omega
      have f3 : ((p : Nat) : Int).toNat = p := by omega
      have f4 : (p : Int) < (m6 : Nat) := by omega
      clear hml hso hfn hfx hsame hsl hso2 hfn2 hrow r0 hfx2
      have f9 : ¬ (0 : Int) < (ms : Nat) := by have := HS0'.out; have := HSL.out; omega
      go_upto_region 17 with fail
      clear e0 f9
      obtain ⟨i0, hi, hz0, hz1, hz2⟩ := info_parts Try.infoSmpK
      have s1 := HS.out.cell (k := 1) 0 rfl rfl
      have s2 := HS.out.cell (k := 2) 0 rfl rfl
      have n1' : gs ∉ fx2 := fun hh => HS.out.apart (i := 0) (j := 1) rfl rfl (by decide) gs (by simp [Mm.tblk]) (HFX.out _ hh)
      have hslm : r.Samples.length ≤ 40 := HS40.out
      refine Mm.wp_region_give 14 (fun i => match i with | 10 => some (Mm.gBs 89 [.int .i64 x.At, .int .i64 x.Value]) | 11 => some (Mm.gSl smp 89 (r.Samples ++ [⟨x.At, x.Value⟩])) | _ => none) (fun i => match i with | 11 => [10, 15] | _ => []) (fun i => match i with | 15 => [Mm.tsl smp 89 r.Samples (.slice As ms ds) fx2] | _ => []) (F := fx2) (D := fun w' => ∃ z : Cha fx2 XT, w' = cha fx2 XT z) (fun X us h => Mm.sep_cha h) (by kernel_rfl) (by kernel_rfl) (by kernel_rfl) (Mm.sep_eq ((Mm.SepF.one (Mm.tsl smp 89 r.Samples (.slice As ms ds) fx2) XT HSO2.out.1 HSO2.out.2).step (Below.refl _ _).drew) rfl) ?_
      repeat (refine Mm.give_det (by rfl) (by rfl) (by rfl) (fun K hK => ?_); go_big_quiet_op; refine hK _ ?_; clear hK K)
      refine Mm.give_op0 90 (by rfl) rfl (by rfl) (by rfl) (by rfl) (by rfl) Mm.gBs_in (fun others X6 hX6 => ?_) ?_
      · go_wp2
        exact Mm.gvq_bs hX6 rfl rfl rfl
      rintro v ds' ⟨gb, rfl, rfl⟩
      simp only [Act.put, List.setIfInBounds_toArray, List.set_cons_succ, List.set_cons_zero]
      refine Mm.give_op2 91 10 15 (by rfl) rfl (by rfl) (by rfl) (by rfl) rfl (by rfl) (by rfl) (by rfl) _ _ rfl rfl Mm.gSl_in (fun others X6 hX6 => Mm.app_gvq rfl (.tmp 84) (.tmp 90) 81 rfl 91 rfl (by rfl) i0 _ 16 Try.underlying81 hi hz0 hz1 hz2 rfl (by decide) rfl rfl (fun W => smp_own_mk (x := ⟨x.At, x.Value⟩) HI.out) (by unfold maxLen; omega) (by omega) hX6) ?_
      rintro v ds' ⟨A8, n8, c8, f8', rfl, rfl, hn8⟩
      simp only [Act.put, List.setIfInBounds_toArray, List.set_cons_succ, List.set_cons_zero]
      repeat (refine Mm.give_det (by rfl) (by rfl) (by rfl) (fun K hK => ?_); go_big_quiet_op; refine hK _ ?_; clear hK K)
      refine Mm.give_nil ?_
      rintro X7 hX7
      have hx7 : Mm.SepF fx2 XT X7 [Mm.tsl smp 89 (r.Samples ++ [⟨x.At, x.Value⟩]) (.slice A8 n8 c8) f8'] := Mm.sep_eq hX7 rfl
      have HS4 := Lib.hid hx7
      have d4 : X7.cell? ⟨g2, p * 2 + 1, none⟩ = some (.slice As ms ds) := (World.cell?_of_block (hx7.chg.block g2 hg2l hg2)).trans r1
      have z4 : X7.frozen? ⟨g2, p * 2 + 1, none⟩ = false := (World.frozen?_of_block (hx7.chg.block g2 hg2l hg2)).trans zr
      clear hX7 hx7 r1 zr s1 s2 n1'
      go_wp2
      go_ret
      obtain ⟨fp5, hs5⟩ := HROW.out _ _ _ _ _ _ HS4.out
      obtain ⟨fp6, hs6⟩ := HSAME.out _ _ _ hs5
      refine ⟨ret_int HCD.out.symm, fp6, ?_⟩
      have h9 := hs6.sel [1] (by decide) rfl
      rw [List.set_set] at h9
      rw [← HE.out]
      exact h9
  | true =>
    obtain ⟨r, hr, hrn⟩ := HFD.out.1 rfl
    have hne := HIN.out.hw.ne r (List.mem_of_getElem? hr)
    have HNE := Lib.hid hne
    have HMS : Hid (Pl.takeS h x = Pl.hitS h p r x) := Lib.hid (by rw [← HP.out]; exact Pl.takeS_hit (by rw [HP.out]; exact hr) hrn)
    have HR2 : Hid (h.Rows[p]? = some r) := Lib.hid hr
    obtain ⟨rows2, hrw⟩ : ∃ rows2, h.Rows = rows2 := ⟨_, rfl⟩
    have HRW := Lib.hid hrw
    rw [hrw] at HR2 HS3 HK1 HML
    have HS : Hid (Mm.SepF fp w w3 [Mm.tblk gs 61 [.string x.Name, .int .i64 x.At, .int .i64 x.Value], Mm.tsl rHead 35 (xs.set k ⟨rows2, o1⟩) (.slice (some ⟨g, 0, none⟩) n c) fp]) := HS3
    have HK2 := HK1
    have HK8 : Hid (rows2.length ≤ 1000) := Lib.hid (by have := HML.out; omega)
    have HS40 : Hid (r.Samples.length ≤ 40) := Lib.hid hne.2
    obtain ⟨XT, hXT⟩ : ∃ XT, w3 = XT := ⟨_, rfl⟩
    rw [hXT] at HS ⊢
    clear hXT HS3 HK1 hr hrn hne hrw
    obtain ⟨A6, m6, c6, fx, e0, -, hml, hso, hfn, hfx, -, -, hsame⟩ := HS.out.headRows 1 rfl HK2.out
    have hm6p : p < m6 := by rw [hml]; exact (List.getElem?_eq_some_iff.1 HR2.out).1
    have hm6n : m6 ≤ 1000 := by rw [hml]; exact HK8.out
    obtain ⟨g2, rfl, -, -⟩ := Mm.sl_addr hso (by show 0 < rows2.length; have h7 : m6 = rows2.length := hml; omega)
    have HJ := Lib.hid (Mm.SepF.one (Mm.tsl rRow 83 rows2 (.slice (some ⟨g2, 0, none⟩) m6 c6) fx) XT hso hfn)
    obtain ⟨As, ms, ds, fx2, r0, r1, hsl, hso2, hfn2, hfx2, hrow⟩ := HJ.out.rowSam 0 rfl HR2.out
    have HSAME := Lib.hid hsame
    have HROW := Lib.hid hrow
    have HSO2 := Lib.hid (And.intro hso2 hfn2)
    have HSL : Hid (ms = r.Samples.length) := hsl
    have HFX : Hid (∀ b, b ∈ fx2 → b ∈ fp) := Lib.hid (fun b hb => (hfx _ (hfx2 b hb).1).1)
    have zr := hso.frozen (p * 2 + 1)
    have hg2 : g2 ∉ fx2 := fun hh => (hfx2 _ hh).2 rfl
    have hg2l : g2 < XT.heap.size := hso.olt g2 hso.mem_block
    have f2 : (0 : Int) ≤ (p : Nat) := by omega
    have f3 : ((p : Nat) : Int).toNat = p := by omega
    have f4 : (p : Int) < (m6 : Nat) := by omega
    clear hml hso hfn hfx hsame hsl hso2 hfn2 hrow r0 hfx2
    have hms0 : 0 < ms := by
      have h1 := HSL.out
      have h2 : r.Samples.length ≠ 0 := fun hh => HNE.out.1 (List.length_eq_zero_iff.1 hh)
      omega
    have hms40 : ms ≤ 40 := by have := HSL.out; have := HS40.out; omega
    obtain ⟨q, hq⟩ : ∃ q, ms - 1 = q := ⟨_, rfl⟩
    have hrd := HSO2.out.1.weak HSO2.out.1.olt
    obtain ⟨y, bm, om, hy, hAs, hbm, -, -, d0, -⟩ := smp_get hrd (show q < ms by omega)
    subst hAs
    have HLA : Hid (Pl.lastAt r = y.At) := Lib.hid (by unfold Pl.lastAt; rw [← HSL.out, hq, Pl.sampleAt_of hy])
    have g1 : (0 : Int) < (ms : Nat) := by omega
    have g2' : IntKind.i64.wrap ((ms : Int) - 1) = (q : Int) := by rw [IntWalk.i64_in _ (by omega)]; omega
    have g3 : (0 : Int) ≤ (q : Nat) := by omega
    have g4 : ((q : Nat) : Int).toNat = q := by omega
    have g5 : (q : Int) < (ms : Nat) := by omega
    have HQ := Lib.hid hq
    have s1 := HS.out.cell (k := 1) 0 rfl rfl
    clear hrd hy hbm hq
    by_cases c1 : y.At = x.At
    · as_aux_lemma =>
      have HF : Hid (Pl.takeS h x = (⟨rows2, o1⟩, 2)) := Lib.hid (by rw [HMS.out, ← HO1.out, ← HRW.out]; exact if_pos (by rw [HLA.out]; exact c1))
      have q1 : (y.At == x.At) = true := by simp [c1]
      clear c1
      go_wp2
      go_ret
      exact ⟨ret_int (by rw [HF.out]), _, by rw [HF.out]; exact HS.out.sel [1] (by decide) rfl⟩
    · have q1 : (y.At == x.At) = false := by simp [c1]
      by_cases c2 : x.At < y.At
      · as_aux_lemma =>
        have HF : Hid (Pl.takeS h x = (⟨rows2, o1⟩, 3)) := Lib.hid (by rw [HMS.out, ← HO1.out, ← HRW.out]; exact (if_neg (by rw [HLA.out]; exact c1)).trans (if_pos (by rw [HLA.out]; exact c2)))
        clear c1
        go_wp2
        go_ret
        exact ⟨ret_int (by rw [HF.out]), _, by rw [HF.out]; exact HS.out.sel [1] (by decide) rfl⟩
      · by_cases c3 : ms = 40
        · as_aux_lemma =>
          have HF : Hid (Pl.takeS h x = (⟨rows2, o1⟩, 4)) := Lib.hid (by rw [HMS.out, ← HO1.out, ← HRW.out]; exact (if_neg (by rw [HLA.out]; exact c1)).trans ((if_neg (by rw [HLA.out]; exact c2)).trans (if_pos (by rw [← HSL.out]; exact c3))))
          have q3 : ((ms : Int) == 40) = true := by rw [c3]; rfl
          clear c1 c3
          go_wp2
          go_ret
          exact ⟨ret_int (by rw [HF.out]), _, by rw [HF.out]; exact HS.out.sel [1] (by decide) rfl⟩
        · as_aux_lemma =>
          have HF : Hid (Pl.takeS h x = (⟨rows2.set p ⟨r.Name, r.Samples ++ [⟨x.At, x.Value⟩]⟩, o1⟩, 1)) := Lib.hid (by rw [HMS.out, ← HO1.out, ← HRW.out]; exact (if_neg (by rw [HLA.out]; exact c1)).trans ((if_neg (by rw [HLA.out]; exact c2)).trans (if_neg (by rw [← HSL.out]; exact c3))))
          have HE : Hid ((⟨rows2.set p ⟨r.Name, r.Samples ++ [⟨x.At, x.Value⟩]⟩, o1⟩ : Head) = (Pl.takeS h x).1) := Lib.hid (by rw [HF.out])
          have HCD : Hid ((Pl.takeS h x).2 = 1) := Lib.hid (by rw [HF.out])
          have q3 : ((ms : Int) == 40) = false := by rw [beq_eq_false_iff_ne]; omega
          clear c1
          go_upto_region 17 with fail
          clear e0 d0 s1 q1 q3 c2
          obtain ⟨i0, hi, hz0, hz1, hz2⟩ := info_parts Try.infoSmpK
          have s1 := HS.out.cell (k := 1) 0 rfl rfl
          have s2 := HS.out.cell (k := 2) 0 rfl rfl
          have n1' : gs ∉ fx2 := fun hh => HS.out.apart (i := 0) (j := 1) rfl rfl (by decide) gs (by simp [Mm.tblk]) (HFX.out _ hh)
          have hslm : r.Samples.length ≤ 40 := HS40.out
          refine Mm.wp_region_give 14 (fun i => match i with | 10 => some (Mm.gBs 89 [.int .i64 x.At, .int .i64 x.Value]) | 11 => some (Mm.gSl smp 89 (r.Samples ++ [⟨x.At, x.Value⟩])) | _ => none) (fun i => match i with | 11 => [10, 15] | _ => []) (fun i => match i with | 15 => [Mm.tsl smp 89 r.Samples (.slice (some ⟨bm, om, none⟩) ms ds) fx2] | _ => []) (F := fx2) (D := fun w' => ∃ z : Cha fx2 XT, w' = cha fx2 XT z) (fun X us h => Mm.sep_cha h) (by kernel_rfl) (by kernel_rfl) (by kernel_rfl) (Mm.sep_eq ((Mm.SepF.one (Mm.tsl smp 89 r.Samples (.slice (some ⟨bm, om, none⟩) ms ds) fx2) XT HSO2.out.1 HSO2.out.2).step (Below.refl _ _).drew) rfl) ?_
          repeat (refine Mm.give_det (by rfl) (by rfl) (by rfl) (fun K hK => ?_); go_big_quiet_op; refine hK _ ?_; clear hK K)
          refine Mm.give_op0 90 (by rfl) rfl (by rfl) (by rfl) (by rfl) (by rfl) Mm.gBs_in (fun others X6 hX6 => ?_) ?_
          · go_wp2
            exact Mm.gvq_bs hX6 rfl rfl rfl
          rintro v ds' ⟨gb, rfl, rfl⟩
          simp only [Act.put, List.setIfInBounds_toArray, List.set_cons_succ, List.set_cons_zero]
          refine Mm.give_op2 91 10 15 (by rfl) rfl (by rfl) (by rfl) (by rfl) rfl (by rfl) (by rfl) (by rfl) _ _ rfl rfl Mm.gSl_in (fun others X6 hX6 => Mm.app_gvq rfl (.tmp 84) (.tmp 90) 81 rfl 91 rfl (by rfl) i0 _ 16 Try.underlying81 hi hz0 hz1 hz2 rfl (by decide) rfl rfl (fun W => smp_own_mk (x := ⟨x.At, x.Value⟩) HI.out) (by unfold maxLen; omega) (by omega) hX6) ?_
          rintro v ds' ⟨A8, n8, c8, f8', rfl, rfl, hn8⟩
          simp only [Act.put, List.setIfInBounds_toArray, List.set_cons_succ, List.set_cons_zero]
          repeat (refine Mm.give_det (by rfl) (by rfl) (by rfl) (fun K hK => ?_); go_big_quiet_op; refine hK _ ?_; clear hK K)
          refine Mm.give_nil ?_
          rintro X7 hX7
          have hx7 : Mm.SepF fx2 XT X7 [Mm.tsl smp 89 (r.Samples ++ [⟨x.At, x.Value⟩]) (.slice A8 n8 c8) f8'] := Mm.sep_eq hX7 rfl
          have HS4 := Lib.hid hx7
          have d4 : X7.cell? ⟨g2, p * 2 + 1, none⟩ = some (.slice (some ⟨bm, om, none⟩) ms ds) := (World.cell?_of_block (hx7.chg.block g2 hg2l hg2)).trans r1
          have z4 : X7.frozen? ⟨g2, p * 2 + 1, none⟩ = false := (World.frozen?_of_block (hx7.chg.block g2 hg2l hg2)).trans zr
          clear hX7 hx7 r1 zr s1 s2 n1'
          go_wp2
          go_ret
          obtain ⟨fp5, hs5⟩ := HROW.out _ _ _ _ _ _ HS4.out
          obtain ⟨fp6, hs6⟩ := HSAME.out _ _ _ hs5
          refine ⟨ret_int HCD.out.symm, fp6, ?_⟩
          have h9 := hs6.sel [1] (by decide) rfl
          rw [List.set_set] at h9
          rw [← HE.out]
          exact h9
end Go.Proofs.Ytkodfflnpalbbaa

/-
  Contracts: slices.Clone where the elements lead nowhere. No conditions.
-/
namespace Go.Proofs.Ytkodfflnpalbbaa
open Go.RowKit
theorem Try.info_clSample : (Try.prog.info? 89).map (fun i => (i.zero, i.size, i.bytes)) = some (some (.agg #[.int .i64 0, .int .i64 0]), 2, 16) := by kernel_rfl
set_option maxHeartbeats 1000000 in
theorem clSample_c (l : List Sample) (A : Option Addr) (n c : Nat) (w : World) (B : Nat) (hl : Mm.SlAt smp w B l A n c) (hn : n ≤ 1048576) :
    Calls Try.prog 60 #[.slice A n c] w (Mm.NewSl smp 89 w l) := by
  have hlen := Lib.hid hl.1
  have hcap := hl.2.1
  have hq : ∀ (w : World) (a : Option Addr) (n c n' c' : Nat), (binOp .eql 81 (.slice a n c) (.slice none n' c')).run Try.prog w = .ok (.bool a.isNone) w := fun w a n c n' c' => Lib.run_eql_slice_nil w _ _ a n c n' c' Try.underlying81
  cases A with
  | none =>
    have hc : c = 0 := hl.2.2.2.1 rfl
    have hl0 : l = [] := List.length_eq_zero_iff.1 (by rw [hlen.out]; omega)
    subst hl0
    clear hl
    go_enter Try.func60, Try.ntmps60
    go_wp2
    go_ret
    exact (Mm.Acc.nil (Below.refl _ _)).newsl
  | some a =>
    have HC := Lib.hid (Mm.flat_cells' (E := smp) (enc := (fun x : Sample => ([.int .i64 x.At, .int .i64 x.Value] : List Value))) (fun x cs h => h.1) hl)
    have HLN := Lib.hid (Mm.flat_len (E := smp) (enc := (fun x : Sample => ([.int .i64 x.At, .int .i64 x.Value] : List Value))) (fun x cs h => h.1) hl)
    have HOK : Hid (∀ (w' : World) x, x ∈ l → (smp).own w' x ((fun x : Sample => ([.int .i64 x.At, .int .i64 x.Value] : List Value)) x) []) := fun w' x hx => by
      obtain ⟨i, hi, rfl⟩ := List.mem_iff_getElem.1 hx
      obtain ⟨y, b, off, cs, hy, _, _, ha, _⟩ := hl.get (k := i) (by rw [← hlen.out]; exact hi)
      rw [List.getElem?_eq_getElem hi] at hy
      injection hy with hy
      subst hy
      exact ⟨rfl, ha.2, rfl⟩
    have H1 : Hid (∀ u : Value, u ∈ l.flatMap (fun x : Sample => ([.int .i64 x.At, .int .i64 x.Value] : List Value)) → u.oneCell' = true) := fun u hu => by
      obtain ⟨x, hx, hu⟩ := List.mem_flatMap.1 hu
      exact smp.one (HOK.out w x hx) u hu
    clear hl
    obtain ⟨i0, hi, hz0, hz1, hz2⟩ := info_parts Try.info_clSample
    go_enter Try.func60, Try.ntmps60
    go_wp2_with (at_builtin; refine wpList_append_own_at _ rfl _ _ 81 rfl w.heap.size 89 i0 (.agg #[.int .i64 0, .int .i64 0]) 2 16 Try.underlying81 hi hz0 hz1 hz2 rfl (by decide) _ _ _ rfl (World.ownsRow_made w #[] 0 (Nat.le_refl _) (Nat.zero_le _) rfl) a n c (l.flatMap (fun x : Sample => ([.int .i64 x.At, .int .i64 x.Value] : List Value))) rfl HLN.out (fun j u hj => Lib.cell?_alloc_some _ (HC.out j u hj)) H1.out (by unfold maxLen; omega) (by omega) (by simp) ?_; intro v' w1 hown hgrow hnil hat)
    have HA := Lib.hid (Mm.clone_post (E := smp) (e := 89) (Nat.zero_add _) (List.nil_append _) hown hgrow (fun x hx => HOK.out _ x hx) hlen.out)
    clear hown hgrow hat hnil
    go_wp2
    go_ret
    exact HA.out.newsl
end Go.Proofs.Ytkodfflnpalbbaa

/-
  slices.Delete of one element, on slices whose elements lead nowhere. No program in sight. No conditions.
-/
namespace Go.Proofs.Ytkodfflnpalbbaa
open Go.RowKit
namespace Mm
/-- elements of several cells that lead nowhere -/
structure FlatN {α : Type} (E : Rep α) (enc : α → List Value) : Prop where
  pos : 0 < E.size
  inv : ∀ {w x cs fx}, E.own w x cs fx → cs = enc x ∧ fx = [] ∧ ∀ w', E.own w' x (enc x) []
theorem flatMap_len {α : Type} {s : Nat} {enc : α → List Value} : ∀ {xs : List α}, (∀ x, x ∈ xs → (enc x).length = s) → (xs.flatMap enc).length = xs.length * s
  | [], _ => by simp
  | a :: t, h => by
    rw [List.flatMap_cons, List.length_append, h a (by simp), flatMap_len (fun x hx => h x (List.mem_cons_of_mem _ hx)), List.length_cons, Nat.succ_mul]; omega
theorem flatMap_drop {α : Type} {s : Nat} {enc : α → List Value} : ∀ {xs : List α} (k : Nat), (∀ x, x ∈ xs → (enc x).length = s) → (xs.drop k).flatMap enc = (xs.flatMap enc).drop (k * s)
  | xs, 0, _ => by simp
  | [], k + 1, _ => by simp
  | a :: t, k + 1, h => by
    rw [List.drop_succ_cons, List.flatMap_cons, flatMap_drop k (fun x hx => h x (List.mem_cons_of_mem _ hx)), List.drop_append, h a (by simp), List.drop_eq_nil_of_le (show (enc a).length ≤ (k + 1) * s by rw [h a (by simp), Nat.succ_mul]; omega), List.nil_append]
    congr 1
    rw [Nat.succ_mul]; omega
theorem flatMap_take {α : Type} {s : Nat} {enc : α → List Value} : ∀ {xs : List α} (k : Nat), (∀ x, x ∈ xs → (enc x).length = s) → (xs.take k).flatMap enc = (xs.flatMap enc).take (k * s)
  | xs, 0, _ => by simp
  | [], k + 1, _ => by simp
  | a :: t, k + 1, h => by
    rw [List.take_succ_cons, List.flatMap_cons, List.flatMap_cons, flatMap_take k (fun x hx => h x (List.mem_cons_of_mem _ hx)), List.take_append, h a (by simp), List.take_of_length_le (show (enc a).length ≤ (k + 1) * s by rw [h a (by simp), Nat.succ_mul]; omega)]
    congr 2
    rw [Nat.succ_mul]; omega
section
variable {α : Type} {E : Rep α} {enc : α → List Value} {e : TypeId} {w w' : World} {xs : List α} {v : Value} {fp : List Nat} {g n c : Nat}
theorem FlatN.owns (hF : FlatN E enc) (h : SlOwn E e w xs v fp) : w.ownsRow 0 e E.size v xs.length (xs.flatMap enc) ∧ fp = v.ownBlock.toList ∧ (∀ x, x ∈ xs → ∀ w', E.own w' x (enc x) []) ∧ ∀ x, x ∈ xs → (enc x).length = E.size := by
  obtain ⟨es, he, ho, rfl⟩ := h
  have h1 : es = xs.map fun x => (enc x, ([] : List Nat)) := by
    apply List.ext_getElem?
    intro i
    rw [List.getElem?_map]
    rcases Nat.lt_or_ge i xs.length with hi | hi
    · have hx := List.getElem?_eq_getElem hi
      have hy := List.getElem?_eq_getElem (show i < es.length by rw [he.1]; exact hi)
      have h2 := hF.inv (he.2 i _ _ hx hy)
      rw [hx, hy]
      exact congrArg some (Prod.ext h2.1 h2.2.1)
    · rw [List.getElem?_eq_none hi, List.getElem?_eq_none (by rw [he.1]; exact hi)]
      rfl
  have h3 : (xs.map fun x => (enc x, ([] : List Nat))).flatMap (·.1) = xs.flatMap enc := by rw [List.flatMap_map]
  have h4 : (xs.map fun x => (enc x, ([] : List Nat))).flatMap (·.2) = [] := by simp [List.flatMap_map]
  have h5 : ∀ x, x ∈ xs → ∀ w', E.own w' x (enc x) [] := fun x hx w' => by
    obtain ⟨i, hi, rfl⟩ := List.mem_iff_getElem.1 hx
    exact (hF.inv (he.2 i _ _ (List.getElem?_eq_getElem hi) (List.getElem?_eq_getElem (show i < es.length by rw [he.1]; exact hi)))).2.2 w'
  refine ⟨?_, by rw [h1, h4]; simp, h5, fun x hx => E.olen (h5 x hx w)⟩
  rw [h1, h3] at ho
  exact ho
theorem FlatN.blk (hF : FlatN E enc) (h : SlOwn E e w xs (.slice (some ⟨g, 0, none⟩) n c) fp) : ∃ cur, Blk w g e cur ∧ cur.length = c * E.size ∧ cur.take (n * E.size) = xs.flatMap enc ∧ n = xs.length ∧ n ≤ c ∧ c ≤ maxLen ∧ fp = [g] := by
  obtain ⟨h1, h2, _⟩ := hF.owns h
  rcases h1.2 with ⟨h3, _⟩ | ⟨g', cap, cur, h3, _, hg, hnc, hcm, hcs, htake⟩
  · simp at h3
  · simp only [Value.slice.injEq, Option.some.injEq, Addr.mk.injEq, and_true] at h3
    obtain ⟨rfl, rfl, rfl⟩ := h3
    refine ⟨cur.toList, by unfold Blk; rw [Array.toArray_toList]; exact hg, by simpa using hcs, by simpa using htake, rfl, hnc, hcm, by rw [h2]; simp [Value.ownBlock]⟩
theorem FlatN.of_blk (_hF : FlatN E enc) {cur : List Value} (h : Blk w g e cur) (hl : cur.length = c * E.size) (ht : cur.take (n * E.size) = xs.flatMap enc) (hn : xs.length = n) (hnc : n ≤ c) (hc : c ≤ maxLen) (hE : ∀ x, x ∈ xs → E.own w x (enc x) []) : SlOwn E e w xs (.slice (some ⟨g, 0, none⟩) n c) [g] := by
  subst hn
  refine SlOwn.of_row (enc := enc) ⟨by simp [flatMap_len fun x hx => E.olen (hE x hx)], .inr ⟨g, c, cur.toArray, rfl, Nat.zero_le _, h, hnc, hc, by simpa using hl, by simpa using ht⟩⟩ hE ?_
  simp
/-- behind slices.Delete of element k: what follows has moved up, the last place is cleared -/
theorem FlatN.erase (hF : FlatN E enc) (h : SlOwn E e w xs (.slice (some ⟨g, 0, none⟩) n c) fp) {k : Nat} (hk : k < n) {z : List Value} (hz : z.length = E.size) {o1 o2 : Nat} (h1 : k * E.size = o1) (h2 : (n - 1) * E.size = o2) :
    Chg fp w ((w.drew.setCells g o1 ((xs.drop (k + 1)).flatMap enc)).setCells g o2 z) ∧ SlOwn E e ((w.drew.setCells g o1 ((xs.drop (k + 1)).flatMap enc)).setCells g o2 z) (xs.eraseIdx k) (.slice (some ⟨g, 0, none⟩) (n - 1) c) fp := by
  subst h1; subst h2
  obtain ⟨_, _, hown, hlen⟩ := hF.owns h
  obtain ⟨cur, hb, hcl, ht, rfl, hnc, hcm, rfl⟩ := hF.blk h
  have hb0 : Blk w.drew g e cur := hb
  have hb2 := setCells_blk z _ ((xs.length - 1) * E.size) _ (setCells_blk ((xs.drop (k + 1)).flatMap enc) _ (k * E.size) _ hb0)
  refine ⟨((Chg.of_below (Below.refl w.heap.size w).drew).trans (setCells_chg g _ _ _)).trans (setCells_chg g _ _ _), ?_⟩
  have hsub : ∀ x, x ∈ xs.eraseIdx k → x ∈ xs := fun x hx => List.mem_of_mem_eraseIdx hx
  have hdl : ((xs.drop (k + 1)).flatMap enc).length = (xs.length - 1 - k) * E.size := by
    rw [flatMap_len (s := E.size) (fun x hx => hlen x (List.mem_of_mem_drop hx)), List.length_drop]; congr 1; omega
  have e1 : k * E.size + (xs.length - 1 - k) * E.size = (xs.length - 1) * E.size := by rw [← Nat.add_mul]; congr 1; omega
  have e2 : (xs.length - 1) * E.size + E.size = xs.length * E.size := by rw [← Nat.succ_mul]; congr 1; omega
  have e3 : xs.length * E.size ≤ cur.length := by rw [hcl]; exact Nat.mul_le_mul_right _ hnc
  have e4 : k * E.size + E.size = (k + 1) * E.size := (Nat.succ_mul _ _).symm
  refine hF.of_blk hb2 (by rw [setList_len, setList_len, hcl]) ?_ (List.length_eraseIdx_of_lt hk) (by omega) hcm (fun x hx => hown x (hsub x hx) _)
  have hE : (xs.eraseIdx k).flatMap enc = (xs.flatMap enc).take (k * E.size) ++ (xs.flatMap enc).drop ((k + 1) * E.size) := by
    rw [List.eraseIdx_eq_take_drop_succ, List.flatMap_append, flatMap_take k hlen, flatMap_drop (k + 1) hlen]
  have hfl : (xs.flatMap enc).length = xs.length * E.size := flatMap_len hlen
  apply List.ext_getElem?
  intro j
  rw [hE, List.getElem?_take]
  by_cases hj : j < (xs.length - 1) * E.size
  · rw [if_pos hj, setList_get _ _ _ _ (by rw [setList_len]; omega), if_neg (by omega), setList_get _ _ _ _ (by rw [hdl]; omega), hdl]
    by_cases hjk : j < k * E.size
    · rw [if_neg (by omega), List.getElem?_append_left (by rw [List.length_take, hfl]; omega), List.getElem?_take, if_pos hjk, ← ht, List.getElem?_take, if_pos (by omega)]
    · rw [if_pos (by omega), List.getElem?_append_right (by rw [List.length_take]; omega), flatMap_drop (k + 1) hlen, List.length_take, hfl, Nat.min_eq_left (by omega)]
  · rw [if_neg hj, List.getElem?_append_right (by rw [List.length_take]; omega), List.getElem?_drop, List.length_take, hfl, Nat.min_eq_left (by omega), List.getElem?_eq_none (by rw [hfl]; omega)]
/-- the cells behind element k -/
theorem FlatN.cells (hF : FlatN E enc) (h : SlOwn E e w xs (.slice (some ⟨g, 0, none⟩) n c) fp) {j : Nat} {u : Value} (hj : (xs.flatMap enc)[j]? = some u) : w.cell? ⟨g, j, none⟩ = some u := by
  obtain ⟨cur, hb, hcl, ht, rfl, hnc, hcm, rfl⟩ := hF.blk h
  refine hb.cell ?_
  rw [← ht, List.getElem?_take] at hj
  split at hj
  · exact hj
  · cases hj
end
theorem run_clear_one {P : Program} (w : World) (t e ty : TypeId) (z : Value) (ht : P.underlying t = some (.slice e)) (hv : ∀ w, (zeroValue e).run P w = .ok z w) (h1 : ∀ u ∈ z.cells, u.oneCell' = true) (b o c : Nat)
    (hc : ∀ j, j < z.cells.size → (w.cell? ⟨b, o + j, none⟩).isSome = true) (hf : ∀ j, j < z.cells.size → w.frozen? ⟨b, o + j, none⟩ = false) :
    (Builtin.clear_ #[t] ty #[.slice (some ⟨b, o, none⟩) 1 c]).run P w = .ok (.tuple #[]) (w.setCells b o z.cells.toList) := by
  have hzc : (Builtin.zeroCells z.cells 1).toList = z.cells.toList := by
    apply List.ext_getElem?
    intro j
    by_cases hj : j < z.cells.size
    · simp [Builtin.zeroCells, hj, Nat.mod_eq_of_lt hj]
    · simp [Builtin.zeroCells, hj]
  have hst := run_storeCells_cells (P := P) b o z.cells.toList 0 w (by simpa using hc) (by simpa using hf) (by intro u hu; exact h1 u (by simpa using hu))
  simp only [Nat.add_zero] at hst
  simp [Builtin.clear_, run_underlying ht, hv, hzc, hst]
end Mm
end Go.Proofs.Ytkodfflnpalbbaa

/-
  'append([]T{}, l...)' inside a larger statement: the copy becomes one of the things that the call owns. No program in sight. No conditions.
-/
namespace Go.Proofs.Ytkodfflnpalbbaa
open Go.RowKit
namespace Mm
/-- elements that lead nowhere: what they are written as -/
structure Flat {α : Type} (E : Rep α) (enc : α → List Value) : Prop where
  at_ : ∀ {w B x cs}, E.at_ w B x cs → cs = enc x
  own : ∀ {w B x cs}, E.at_ w B x cs → ∀ w', E.own w' x (enc x) []
theorem flat_int : Flat int (fun x => [.int .i64 x]) := ⟨fun h => h.1, fun h _ => ⟨rfl, h.2, rfl⟩⟩
theorem flat_str : Flat str (fun x => [.string x]) := ⟨fun h => h.1, fun h _ => ⟨rfl, h.2, rfl⟩⟩
theorem flat_bool : Flat bool (fun x => [.bool x]) := ⟨fun h => h.1, fun h _ => ⟨rfl, h.2, rfl⟩⟩
section
variable {P : Program} {α : Type} {E : Rep α} {enc : α → List Value} {w0 wr W : World} {ts : List Thing} {xs : List α} {A : Option Addr} {n c g B : Nat} {e : TypeId}
theorem run_clone (hF : Flat E enc) (t ty : TypeId) (i : TypeInfo) (z : Value) (bytes : Nat) (ht : P.underlying t = some (.slice e)) (hi : P.info? e = some i) (hz : i.zero = some z) (hsize : i.size = E.size) (hby : i.bytes = bytes) (hzs : z.cells.size = E.size) (hsz : 0 < E.size)
    (h : Sep w0 wr ts) (hb : Below wr.heap.size wr W) (hg : W.heap[g]? = some (.cells #[] e (0, 0))) (hgn : wr.heap.size ≤ g) (hl : SlAt E W B xs A n c) (hn : n ≤ maxLen) (hbytes : n * bytes ≤ 140737488355328) :
    ∃ A2 c2 fp w1, (Builtin.append_ #[t, t] ty #[.slice (some ⟨g, 0, none⟩) 0 0, .slice A n c]).run P W = .ok (.slice A2 n c2) w1 ∧ Sep w0 w1 (tsl E e xs (.slice A2 n c2) fp :: ts) ∧ Below wr.heap.size wr w1 := by
  have hown : W.ownsRow g e E.size (.slice (some ⟨g, 0, none⟩) 0 0) 0 [] := ⟨by simp, .inr ⟨g, 0, #[], rfl, Nat.le_refl _, hg, Nat.le_refl _, Nat.zero_le _, by simp, by simp⟩⟩
  have hlt : g < W.heap.size := by
    rcases Nat.lt_or_ge g W.heap.size with h1 | h1
    · exact h1
    · rw [Array.getElem?_eq_none h1] at hg; cases hg
  have hE : ∀ w1 x, x ∈ xs → E.own w1 x (enc x) [] := fun w1 x hx => by
    obtain ⟨k, hk, rfl⟩ := List.mem_iff_getElem.1 hx
    obtain ⟨y, b, off, cs, hy, _, _, ha, _⟩ := hl.get (k := k) (by rw [← hl.1]; exact hk)
    rw [List.getElem?_eq_getElem hk] at hy
    injection hy with hy
    subst hy
    exact hF.own ha w1
  have main : ∀ v w1, w1.ownsRow g e E.size v n (xs.flatMap enc) → W.grownBy w1 (some g) → ∃ A2 c2 fp, v = .slice A2 n c2 ∧ Sep w0 w1 (tsl E e xs (.slice A2 n c2) fp :: ts) ∧ Below wr.heap.size wr w1 := fun v w1 k1 k2 => by
    have h0 : w1.ownsRow 0 e E.size v n (xs.flatMap enc) := ⟨k1.1, k1.2.imp id fun ⟨g', cap, cur, h1, _, h3⟩ => ⟨g', cap, cur, h1, Nat.zero_le _, h3⟩⟩
    have hs := SlOwn.of_row h0 (fun x hx => hE w1 x hx) hl.1
    obtain ⟨A2, n2, c2, hv, hn2, _⟩ := hs.form
    have hbl : Below wr.heap.size wr w1 := hb.grown k2 (by have := hb.size; omega) (fun k hk => by injection hk with hk; omega)
    subst hv
    have hn3 : n2 = n := hn2.trans hl.1
    subst hn3
    exact ⟨A2, c2, _, rfl, h.add hbl (t := tsl E e xs (.slice A2 n2 c2) _) hs (by simp only [tsl]; cases (Value.slice A2 n2 c2).ownBlock <;> simp) (fun b hb => by
      simp only [tsl, Option.mem_toList] at hb
      have := (k1.lt b hb).1; omega), hbl⟩
  cases A with
  | none =>
    have hc0 : c = 0 := hl.2.2.2.1 rfl
    have hn0 : n = 0 := by have := hl.2.1; omega
    subst hc0; subst hn0
    have hx0 : xs = [] := List.length_eq_zero_iff.1 hl.1
    have hr := run_append_owned_none (P := P) W g t ty e i E.size ht hi _ _ _ hown
    obtain ⟨A2, c2, fp, hv, hS, hB⟩ := main _ W (by rw [hx0]; exact hown) ⟨rfl, rfl, rfl, Nat.le_refl _, fun _ _ _ => rfl⟩
    exact ⟨A2, c2, fp, W, by rw [hr, hv], hS, hB⟩
  | some a =>
    obtain ⟨v', w1, hr, h2, h3, _, h5⟩ := run_append_own_at (P := P) W g t ty e i z E.size bytes ht hi hz hsize hby hzs hsz _ 0 [] hown a n c (xs.flatMap enc) (flat_len (fun x cs h => hF.at_ h) hl) (flat_cells' (fun x cs h => hF.at_ h) hl) (fun u hu => by
      obtain ⟨x, hx, hu⟩ := List.mem_flatMap.1 hu
      exact E.one (hE W x hx) u hu) (by omega) (by rw [Nat.zero_add]; exact hbytes) (by omega)
    rw [Nat.zero_add, List.nil_append] at h2
    obtain ⟨A2, c2, fp, hv, hS, hB⟩ := main v' w1 h2 h3
    exact ⟨A2, c2, fp, w1, by rw [hr, hv], hS, hB⟩

theorem wp_clone {o : Oper} {a : Act} {K : Act → World → Prop} {Q : Exit → Act → World → Prop} (s x : Operand) (t : TypeId)
    (ho : o.op = .call { callee := .builtin .append, args := #[s, x], argTypes := #[t, t] })
    (hF : Flat E enc) (i : TypeInfo) (z : Value) (bytes : Nat) (ht : P.underlying t = some (.slice e)) (hi : P.info? e = some i) (hz : i.zero = some z) (hsize : i.size = E.size) (hby : i.bytes = bytes) (hzs : z.cells.size = E.size) (hsz : 0 < E.size)
    (h : Sep w0 wr ts) (hb : Below wr.heap.size wr W) (hg : W.heap[g]? = some (.cells #[] e (0, 0))) (hgn : wr.heap.size ≤ g) (hl : SlAt E W B xs A n c) (hn : n ≤ maxLen) (hbytes : n * bytes ≤ 140737488355328)
    (hs : a.eval s = .slice (some ⟨g, 0, none⟩) 0 0) (hx : a.eval x = .slice A n c)
    (hk : ∀ A2 c2 fp w1, Sep w0 w1 (tsl E e xs (.slice A2 n c2) fp :: ts) → Below wr.heap.size wr w1 → K (a.put o.dst (.slice A2 n c2)) w1) : o.wp P a W K Q := by
  obtain ⟨A2, c2, fp, w1, hr, h2, h3⟩ := run_clone (P := P) hF t o.type i z bytes ht hi hz hsize hby hzs hsz h hb hg hgn hl hn hbytes
  unfold Oper.wp execOp
  simp only [ho, resolve, invoke, builtin, Sem.run_bind, Sem.run_pure, Result.andThen_ok, List.map_toArray, List.map_cons, List.map_nil, hs, hx, hr]
  exact hk A2 c2 fp w1 h2 h3
theorem step_clone {ops : Array Oper} {o : Oper} {a : Act} {K : Act → World → Prop} {Q : Exit → Act → World → Prop} {X : Prop} (hgd : o.guard = none) (s x : Operand) (t : TypeId)
    (ho : o.op = .call { callee := .builtin .append, args := #[s, x], argTypes := #[t, t] })
    (hF : Flat E enc) (i : TypeInfo) (z : Value) (bytes : Nat) (ht : P.underlying t = some (.slice e)) (hi : P.info? e = some i) (hz : i.zero = some z) (hsize : i.size = E.size) (hby : i.bytes = bytes) (hzs : z.cells.size = E.size) (hsz : 0 < E.size)
    (h : Sep w0 wr ts) (hb : Below wr.heap.size wr W) (hg : W.heap[g]? = some (.cells #[] e (0, 0))) (hgn : wr.heap.size ≤ g) (hl : SlAt E W B xs A n c) (hn : n ≤ maxLen) (hbytes : n * bytes ≤ 140737488355328)
    (hs : a.eval s = .slice (some ⟨g, 0, none⟩) 0 0) (hx : a.eval x = .slice A n c)
    (hk : ∀ A2 c2 fp w1, Sep w0 w1 (tsl E e xs (.slice A2 n c2) fp :: ts) → Below wr.heap.size wr w1 → K (a.put o.dst (.slice A2 n c2)) w1) :
    if Region.wanted o (yielded ops a.tmps) = true then Oper.wp P o a W K Q else X := by
  have hw : Region.wanted o (yielded ops a.tmps) = true := by simp [Region.wanted, hgd]
  rw [if_pos hw]
  exact wp_clone s x t ho hF i z bytes ht hi hz hsize hby hzs hsz h hb hg hgn hl hn hbytes hs hx hk
theorem wpList_clone {ops : Array Oper} {rest : List Oper} {o : Oper} {a : Act} {Q : Exit → Act → World → Prop} (hgd : o.guard = none) (s x : Operand) (t : TypeId)
    (ho : o.op = .call { callee := .builtin .append, args := #[s, x], argTypes := #[t, t] })
    (hF : Flat E enc) (i : TypeInfo) (z : Value) (bytes : Nat) (ht : P.underlying t = some (.slice e)) (hi : P.info? e = some i) (hz : i.zero = some z) (hsize : i.size = E.size) (hby : i.bytes = bytes) (hzs : z.cells.size = E.size) (hsz : 0 < E.size)
    (h : Sep w0 wr ts) (hb : Below wr.heap.size wr W) (hg : W.heap[g]? = some (.cells #[] e (0, 0))) (hgn : wr.heap.size ≤ g) (hl : SlAt E W B xs A n c) (hn : n ≤ maxLen) (hbytes : n * bytes ≤ 140737488355328)
    (hs : a.eval s = .slice (some ⟨g, 0, none⟩) 0 0) (hx : a.eval x = .slice A n c)
    (hk : ∀ A2 c2 fp w1, Sep w0 w1 (tsl E e xs (.slice A2 n c2) fp :: ts) → Below wr.heap.size wr w1 → wpList P ops Q rest (a.put o.dst (.slice A2 n c2)) w1) : wpList P ops Q (o :: rest) a W :=
  wpList_plain hgd fun _ hK => wp_clone s x t ho hF i z bytes ht hi hz hsize hby hzs hsz h hb hg hgn hl hn hbytes hs hx (fun A2 c2 fp w1 h1 h2 => hK _ _ (hk A2 c2 fp w1 h1 h2))
end
end Mm
end Go.Proofs.Ytkodfflnpalbbaa

/-
  append of a whole slice of flat elements to a slice that the call owns; slices cut from the right and from the left. No program in sight. No conditions.
-/
namespace Go.Proofs.Ytkodfflnpalbbaa
open Go.RowKit
namespace Mm
section
variable {P : Program} {α : Type} {E : Rep α} {enc : α → List Value} {F : List Nat} {w0 wr : World} {ts : List Thing} {xs ys : List α} {A : Option Addr} {n c B : Nat} {e : TypeId} {v : Value} {fp : List Nat}
theorem SepF.appMany (hF : Flat E enc) (hN : FlatN E enc) (t ty : TypeId) (i : TypeInfo) (z : Value) (bytes : Nat) (ht : P.underlying t = some (.slice e)) (hi : P.info? e = some i) (hz : i.zero = some z) (hsize : i.size = E.size) (hby : i.bytes = bytes) (hzs : z.cells.size = E.size)
    (h : SepF F w0 wr ts) (k : Nat) (hk : ts[k]? = some (tsl E e ys v fp)) (hl : SlAt E wr B xs A n c) (hn : ys.length + n ≤ maxLen) (hbytes : (ys.length + n) * bytes ≤ 140737488355328) :
    ∃ A2 c2 fp' w1, (Builtin.append_ #[t, t] ty #[v, .slice A n c]).run P wr = .ok (.slice A2 (ys.length + n) c2) w1 ∧ SepF F w0 w1 (ts.set k (tsl E e (ys ++ xs) (.slice A2 (ys.length + n) c2) fp')) := by
  have hs : SlOwn E e wr ys v fp := h.at_ k hk
  obtain ⟨hown, hfp, hys, hlen⟩ := hN.owns hs
  have hE : ∀ w1 x, x ∈ xs → E.own w1 x (enc x) [] := fun w1 x hx => by
    obtain ⟨k, hk, rfl⟩ := List.mem_iff_getElem.1 hx
    obtain ⟨y, b, off, cs, hy, _, _, ha, _⟩ := hl.get (k := k) (by rw [← hl.1]; exact hk)
    rw [List.getElem?_eq_getElem hk] at hy
    injection hy with hy
    subst hy
    exact hF.own ha w1
  have main : ∀ v' w1, w1.ownsRow 0 e E.size v' (ys.length + n) (ys.flatMap enc ++ xs.flatMap enc) → wr.grownBy w1 v.ownBlock → (v'.ownBlock = v.ownBlock ∨ v'.ownBlock = some wr.heap.size) → ∃ A2 c2 fp', v' = .slice A2 (ys.length + n) c2 ∧ SepF F w0 w1 (ts.set k (tsl E e (ys ++ xs) (.slice A2 (ys.length + n) c2) fp')) := fun v' w1 k1 k2 k3 => by
    rw [← List.flatMap_append] at k1
    have hs1 : SlOwn E e w1 (ys ++ xs) v' v'.ownBlock.toList := SlOwn.of_row (enc := enc) (by rw [List.length_append, hl.1]; exact k1) (fun x hx => by
      rcases List.mem_append.1 hx with hx | hx
      · exact hys x hx w1
      · exact hE w1 x hx) rfl
    obtain ⟨A2, n2, c2, hv, hn2, _⟩ := hs1.form
    subst hv
    rw [List.length_append, hl.1] at hn2
    subst hn2
    refine ⟨A2, c2, _, rfl, h.upd hk (Chg.mk k2.os k2.tape k2.output k2.size fun b hb hn => k2.block b hb (fun hh => hn (row_in hs hh.symm))) (t' := tsl E e (ys ++ xs) (.slice A2 (ys.length + n) c2) _) hs1 (by simp only [tsl]; cases (Value.slice A2 (ys.length + n) c2).ownBlock <;> simp) (fun b hb => ?_)⟩
    simp only [tsl, Option.mem_toList] at hb
    rcases k3 with h3 | h3
    · rw [h3] at hb; exact .inl (row_in hs (by rw [Option.mem_def.1 hb]))
    · rw [h3] at hb; injection hb with hb; exact .inr (by omega)
  cases A with
  | none =>
    have hc0 : c = 0 := hl.2.2.2.1 rfl
    have hn0 : n = 0 := by have := hl.2.1; omega
    subst hc0; subst hn0
    have hx0 : xs = [] := List.length_eq_zero_iff.1 hl.1
    have hr := run_append_owned_none (P := P) wr 0 t ty e i E.size ht hi _ _ _ hown
    obtain ⟨A2, c2, fp', hv, hS⟩ := main _ wr (by rw [hx0]; simpa using hown) ⟨rfl, rfl, rfl, Nat.le_refl _, fun _ _ _ => rfl⟩ (.inl rfl)
    exact ⟨A2, c2, fp', wr, by rw [hr, hv], hS⟩
  | some a =>
    obtain ⟨v', w1, hr, h2, h3, _, h5⟩ := run_append_own_at (P := P) wr 0 t ty e i z E.size bytes ht hi hz hsize hby hzs hN.pos _ _ _ hown a n c (xs.flatMap enc) (flat_len (fun x cs h => hF.at_ h) hl) (flat_cells' (fun x cs h => hF.at_ h) hl) (fun u hu => by
      obtain ⟨x, hx, hu⟩ := List.mem_flatMap.1 hu
      exact E.one (hE wr x hx) u hu) hn hbytes (Nat.zero_le _)
    obtain ⟨A2, c2, fp', hv, hS⟩ := main v' w1 h2 h3 h5
    exact ⟨A2, c2, fp', w1, by rw [hr, hv], hS⟩
theorem wpList_appMany {ops : Array Oper} {rest : List Oper} {o : Oper} {a : Act} {Q : Exit → Act → World → Prop} {m : Nat} (hgd : o.guard = none) (s x : Operand) (t : TypeId)
    (ho : o.op = .call { callee := .builtin .append, args := #[s, x], argTypes := #[t, t] })
    (hF : Flat E enc) (hN : FlatN E enc) (i : TypeInfo) (z : Value) (bytes : Nat) (ht : P.underlying t = some (.slice e)) (hi : P.info? e = some i) (hz : i.zero = some z) (hsize : i.size = E.size) (hby : i.bytes = bytes) (hzs : z.cells.size = E.size)
    (h : SepF F w0 wr ts) (k : Nat) (hk : ts[k]? = some (tsl E e ys v fp)) (hl : SlAt E wr B xs A n c) (hm : ys.length + n = m) (hn : m ≤ maxLen) (hbytes : m * bytes ≤ 140737488355328) (hs : a.eval s = v) (hx : a.eval x = .slice A n c)
    (hnext : ∀ A2 c2 fp' w1, SepF F w0 w1 (ts.set k (tsl E e (ys ++ xs) (.slice A2 m c2) fp')) → wpList P ops Q rest (a.put o.dst (.slice A2 m c2)) w1) : wpList P ops Q (o :: rest) a wr := by
  subst hm
  refine wpList_plain hgd fun K hK => ?_
  obtain ⟨A2, c2, fp', w1, hr, h2⟩ := h.appMany (P := P) hF hN t o.type i z bytes ht hi hz hsize hby hzs k hk hl hn hbytes
  unfold Oper.wp execOp
  simp only [ho, resolve, invoke, builtin, Sem.run_bind, Sem.run_pure, Result.andThen_ok, List.map_toArray, List.map_cons, List.map_nil, hs, hx, hr]
  exact hK _ _ (hnext A2 c2 fp' w1 h2)
/-- a slice that is owned, read -/
theorem SepF.rdSl (h : SepF F w0 wr ts) (k : Nat) (hk : ts[k]? = some (tsl E e ys (.slice A n c) fp)) : SlAt E wr wr.heap.size ys A n c := (h.sl k hk).weak fun b hb => (h.sl k hk).olt b hb
/-- cut from the left, as Go lays it -/
theorem SlAt.cut {w : World} {g j : Nat} (h : SlAt E w B xs (some ⟨g, 0, none⟩) n c) (hj : j ≤ n) {s : Nat} (hs : E.size = s) : ∃ A', (if c = j then (some ⟨g, 0, none⟩ : Option Addr) else some ⟨g, j * s, none⟩) = A' ∧ SlAt E w B (xs.drop j) A' (n - j) (c - j) := by
  subst hs
  by_cases hc : c = j
  · rw [if_pos hc]
    have hn : n = j := by have := h.2.1; omega
    subst hn
    have hx : xs.drop n = [] := List.drop_eq_nil_of_le (by rw [h.1]; exact Nat.le_refl _)
    rw [hx, Nat.sub_self]
    exact ⟨_, rfl, SlAt.nil (by have := h.2.2.1; omega) (fun hh => by cases hh)⟩
  · rw [if_neg hc]
    have := h.drop hj
    rw [Nat.zero_add] at this
    exact ⟨_, rfl, this⟩
/-- 's[j:]', the bound an int, as one equation -/
theorem run_cut {P : Program} {t : TypeId} {s : Nat} (ht : P.underlying t = some (.slice (P.elem t))) (hs : ∀ W, (sizeOf (P.elem t)).run P W = .ok s W) {g n c : Nat} {j : Nat} {i : Int} (hi : i = j) (hj : j ≤ n) (W : World) :
    (Instr.slice t (.slice (some ⟨g, 0, none⟩) n c) (some (.int .i64 i)) none none).run P W = .ok (.slice (if c = j then (some ⟨g, 0, none⟩ : Option Addr) else some ⟨g, j * s, none⟩) (n - j) (c - j)) W := by
  subst hi
  rw [run_slice_l W t _ n c ht .i64 (j : Int) (by omega) (by omega), hs]
  simp only [Result.andThen_ok, sliced, Int.toNat_natCast]
  congr 1
  by_cases h : c = j
  · simp [h]
  · simp only [h, if_false, Option.map_some, Addr.add]
    by_cases h0 : j * s = 0
    · simp [h0]
    · simp [h0]
/-- an empty slice, just laid -/
theorem SepF.fresh {g : Nat} (h : SepF F w0 wr ts) (hg : wr.heap.size = g) (E : Rep α) (e : TypeId) : SepF F w0 (wr.alloc (.cells #[] e)) (tsl E e [] (.slice (some ⟨g, 0, none⟩) 0 0) [g] :: ts) := by
  have h1 := h.alloc' hg e []
  refine h1.conv (by simp [tblk, tsl]) (List.forall_mem_cons.2 ⟨?_, fun u hu => h1.hold u (List.mem_cons_of_mem _ hu)⟩)
  have hb : Blk (wr.alloc (.cells #[] e)) g e [] := h1.at_ 0 rfl
  exact ⟨[], ⟨rfl, fun i x y h => by simp at h⟩, ⟨by simp, .inr ⟨g, 0, #[], rfl, Nat.zero_le _, hb, Nat.le_refl _, Nat.zero_le _, by simp, by simp⟩⟩, by simp [Value.ownBlock]⟩
end
end Mm
end Go.Proofs.Ytkodfflnpalbbaa

/-
  'append([]T{}, l...)' inside a region that draws its order and gives; an empty slice just laid; the two ways of telling what a call owns. No program in sight. No conditions.
-/
namespace Go.Proofs.Ytkodfflnpalbbaa
open Go.RowKit
namespace Mm
theorem Sep.toF {w0 wr : World} {ts : List Thing} (h : Sep w0 wr ts) : SepF [] w0 wr ts := ⟨Chg.of_below h.bel, h.nd, fun b hb => .inr (h.new b hb), h.hold⟩
theorem SepF.toSep {w0 wr : World} {ts : List Thing} (h : SepF [] w0 wr ts) : Sep w0 wr ts := ⟨h.bel0, h.nd, fun b hb => (h.new b hb).resolve_left (fun h => by cases h), h.hold⟩
section
variable {P : Program} {F : List Nat} {w X : World} {ops : Array Oper} {o : Oper} {a a' : Act} {others tk : List Thing} {vals : List Value} {α : Type} {E : Rep α} {enc : α → List Value} {e : TypeId} {xs : List α} {v : Value} {fp : List Nat} {A : Option Addr} {n c B : Nat}
theorem clone_gvq (hgd : o.guard = none) (s y : Operand) (t : TypeId) (ho : o.op = .call { callee := .builtin .append, args := #[s, y], argTypes := #[t, t] }) (d : Nat) (hd : o.dst = some d) (hs : Nat.blt d a.tmps.size = true)
    (hF : Flat E enc) (hN : FlatN E enc) (i : TypeInfo) (z : Value) (bytes : Nat) (ht : P.underlying t = some (.slice e)) (hi : P.info? e = some i) (hz : i.zero = some z) (hsize : i.size = E.size) (hby : i.bytes = bytes) (hzs : z.cells.size = E.size)
    (hsv : a.eval s = v) (hyv : a.eval y = .slice A n c) (hl : SlAt E X B xs A n c) (hn : n ≤ maxLen) (hbytes : n * bytes ≤ 140737488355328)
    (hS : SepF F w X ([tsl E e [] v fp] ++ others)) : wpList P ops (GvQ F w (gSl E e xs vals tk) d a.defers others) [o] a X := by
  refine wpList_appMany hgd s y t ho hF hN i z bytes ht hi hz hsize hby hzs hS 0 rfl hl (m := n) (by simp) hn hbytes hsv hyv ?_
  intro A2 c2 fp' w1 h1
  have e1 : ((a.put o.dst (.slice A2 n c2)).tmps.getD d undef) = .slice A2 n c2 := by
    rw [hd]; exact put_get (by simpa [Nat.blt_eq] using hs) _
  unfold wpList
  exact ⟨rfl, by rw [hd]; rfl, _, ⟨A2, n, c2, fp', e1, rfl, hl.1.symm⟩, h1⟩
theorem gvq_fresh {g d : Nat} {df : List Deferred} (h : SepF F w X others) (hg : X.heap.size = g) (hv : a'.tmps.getD d undef = .slice (some ⟨g, 0, none⟩) 0 0) (hdf : a'.defers = df) : GvQ F w (gSl E e [] vals tk) d df others .normal a' (X.alloc (.cells #[] e)) :=
  ⟨rfl, hdf, _, ⟨_, _, _, _, hv, rfl, rfl⟩, h.fresh hg E e⟩
end
end Mm
end Go.Proofs.Ytkodfflnpalbbaa

/-
  Slices of slices that are cloned row by row: first the headers alone are copied, then each row is replaced by its clone. No program in sight. No conditions.
-/
namespace Go.Proofs.Ytkodfflnpalbbaa
open Go.RowKit
namespace Mm
abbrev Hdr := Option Addr × Nat × Nat
def hval (h : Hdr) : Value := .slice h.1 h.2.1 h.2.2
def hdr : Rep Hdr := flat 1 (fun h => [hval h]) (fun _ => True) (fun _ => rfl) (fun _ u hu => by rw [List.mem_singleton.1 hu]; rfl)
theorem flat_hdr : Flat hdr (fun h => [hval h]) := ⟨fun h => h.1, fun h w' => ⟨rfl, trivial, rfl⟩⟩
theorem flatN_hdr : FlatN hdr (fun h => [hval h]) := ⟨by decide, fun h => by
  obtain ⟨rfl, h1, rfl⟩ := h
  exact ⟨rfl, rfl, fun w' => ⟨rfl, trivial, rfl⟩⟩⟩
/-- a row of the call's own, or a header alone -/
def orv {α : Type} (E : Rep α) (e : TypeId) : Rep (List α ⊕ Hdr) where
  size := 1
  at_ := fun w B x cs => match x with
    | .inl xs => (slice E e).at_ w B xs cs
    | .inr h => cs = [hval h]
  own := fun w x cs fp => match x with
    | .inl xs => (slice E e).own w xs cs fp
    | .inr h => cs = [hval h] ∧ fp = []
  len := fun {w B x cs} h => by
    cases x with
    | inl xs => exact (slice E e).len h
    | inr y => rw [show cs = [hval y] from h]; rfl
  olen := fun {w x cs fp} h => by
    cases x with
    | inl xs => exact (slice E e).olen h
    | inr y => rw [show cs = [hval y] from h.1]; rfl
  one := fun {w x cs fp} h u hu => by
    cases x with
    | inl xs => exact (slice E e).one h u hu
    | inr y => rw [show cs = [hval y] from h.1] at hu; rw [List.mem_singleton.1 hu]; rfl
  keep := fun {w w' B x cs} h k => by
    cases x with
    | inl xs => exact (slice E e).keep h k
    | inr y => exact h
  more := fun {w B B' x cs} h k => by
    cases x with
    | inl xs => exact (slice E e).more h k
    | inr y => exact h
  okeep := fun {w w' x cs fp} h k => by
    cases x with
    | inl xs => exact (slice E e).okeep h k
    | inr y => exact h
  olt := fun {w x cs fp} h b hb => by
    cases x with
    | inl xs => exact (slice E e).olt h b hb
    | inr y => rw [show fp = [] from h.2] at hb; cases hb
  weak := fun {w B x cs fp} h k => by
    cases x with
    | inl xs => exact (slice E e).weak h k
    | inr y => exact h.1
section
variable {α : Type} {E : Rep α} {e e2 : TypeId} {w : World} {B : Nat} {v : Value} {fp : List Nat}
theorem orv_start {hs : List Hdr} (h : SlOwn hdr e2 w hs v fp) : SlOwn (orv E e) e2 w (hs.map .inr) v fp := by
  obtain ⟨es, he, ho, rfl⟩ := h
  refine ⟨es, ⟨by rw [List.length_map]; exact he.1, fun i x y hx hy => ?_⟩, by rw [List.length_map]; exact ho, rfl⟩
  rw [List.getElem?_map] at hx
  cases hh : hs[i]? with
  | none => rw [hh] at hx; cases hx
  | some h =>
    rw [hh] at hx
    injection hx with hx
    subst hx
    have := he.2 i h y hh hy
    exact ⟨this.1, this.2.2⟩
theorem orv_end {xs : List (List α)} (h : SlOwn (orv E e) e2 w (xs.map .inl) v fp) : SlOwn (slice E e) e2 w xs v fp := by
  obtain ⟨es, he, ho, rfl⟩ := h
  refine ⟨es, ⟨by rw [he.1, List.length_map], fun i x y hx hy => ?_⟩, by rw [List.length_map] at ho; exact ho, rfl⟩
  exact he.2 i (.inl x) y (by rw [List.getElem?_map, hx]; rfl) hy
/-- the headers of a slice of slices that is read -/
theorem hdrs {xs : List (List α)} {A : Option Addr} {n c : Nat} (h : SlAt (slice E e) w B xs A n c) : ∃ hs : List Hdr, SlAt hdr w B hs A n c ∧ ∀ (k : Nat) (x : List α), xs[k]? = some x → ∃ y, hs[k]? = some y ∧ SlAt E w B x y.1 y.2.1 y.2.2 := by
  have key : ∀ k : Nat, ∃ y : Hdr, ∀ x, xs[k]? = some x → ∃ b off, A = some ⟨b, off, none⟩ ∧ b < B ∧ SlAt E w B x y.1 y.2.1 y.2.2 ∧ w.cell? ⟨b, off + k, none⟩ = some (hval y) := fun k => by
    cases hx : xs[k]? with
    | none => exact ⟨(none, 0, 0), fun x h => by cases h⟩
    | some x =>
      obtain ⟨b, off, cs, hA, hb, ⟨A', n', c', rfl, ha⟩, hc⟩ := h.2.2.2.2 k x hx
      refine ⟨(A', n', c'), fun x' hx' => ?_⟩
      injection hx' with hx'
      subst hx'
      refine ⟨b, off, hA, hb, ha, ?_⟩
      have := hc 0 _ rfl
      rw [show (slice E e).size = 1 from rfl, Nat.mul_one, Nat.add_zero] at this
      exact this
  obtain ⟨f, hf⟩ := Classical.axiomOfChoice key
  refine ⟨(List.range n).map f, ⟨by simp, h.2.1, h.2.2.1, h.2.2.2.1, fun i y hy => ?_⟩, fun k x hx => ?_⟩
  · rw [List.getElem?_map] at hy
    have hi : i < n := by
      rcases Nat.lt_or_ge i n with h1 | h1
      · exact h1
      · rw [List.getElem?_eq_none (by simpa using h1)] at hy; cases hy
    rw [List.getElem?_range hi] at hy
    injection hy with hy
    subst hy
    have hl : i < xs.length := by rw [h.1]; exact hi
    obtain ⟨b, off, hA, hb, ha, hc⟩ := hf i _ (List.getElem?_eq_getElem hl)
    refine ⟨b, off, [hval (f i)], hA, hb, ⟨rfl, trivial⟩, fun j u hj => ?_⟩
    cases j with
    | zero =>
      injection hj with hj
      subst hj
      rw [show hdr.size = 1 from rfl, Nat.mul_one, Nat.add_zero]
      exact hc
    | succ j => simp at hj
  · have hk : k < n := by rw [← h.1]; exact (List.getElem?_eq_some_iff.1 hx).1
    obtain ⟨b, off, hA, hb, ha, hc⟩ := hf k x hx
    exact ⟨f k, by rw [List.getElem?_map, List.getElem?_range hk]; rfl, ha⟩
/-- row k, a header alone, becomes a row of the call's own -/
theorem SepF.rowIn {F : List Nat} {w0 wr : World} {ts : List Thing} {ys : List (List α ⊕ Hdr)} {g n c k : Nat} {z : List α ⊕ Hdr} {xs : List α} {A : Option Addr} {m d : Nat} {fx : List Nat} (h : SepF F w0 wr (tsl E e xs (.slice A m d) fx :: tsl (orv E e) e2 ys (.slice (some ⟨g, 0, none⟩) n c) fp :: ts)) (hk : ys[k]? = some z) :
    ∃ fp', SepF F w0 (wr.setCell ⟨g, k, none⟩ (.slice A m d)) (tsl (orv E e) e2 (ys.set k (.inl xs)) (.slice (some ⟨g, 0, none⟩) n c) fp' :: ts) := by
  have ho : SlOwn (orv E e) e2 wr ys (.slice (some ⟨g, 0, none⟩) n c) fp := h.at_ 1 rfl
  have hx : SlOwn E e wr xs (.slice A m d) fx := h.at_ 0 rfl
  have hnx : fx.Nodup := h.ndat (i := 0) rfl
  have hap : ∀ b, b ∈ fx → b ∉ fp := h.apart (i := 0) (j := 1) rfl rfl (by decide)
  have hgf : g ∈ fp := ho.mem_block
  have hown : (orv E e).own wr (.inl xs) [.slice A m d] fx := ⟨_, rfl, hx⟩
  have hkl : k < ys.length := (List.getElem?_eq_some_iff.1 hk).1
  obtain ⟨fp', h1, h2, h3⟩ := ho.set (i := k) hkl hown (h.ndat (i := 1) rfl) hnx (fun b hb hm => hap b hb hm)
  rw [show (orv E e).size = 1 from rfl, Nat.mul_one] at h1
  refine ⟨fp', ?_⟩
  have h4 := h.upd2 (i := 1) (j := 0) (by decide) rfl rfl (W := wr.setCell ⟨g, k, none⟩ (.slice A m d)) (t' := tsl (orv E e) e2 (ys.set k (.inl xs)) (.slice (some ⟨g, 0, none⟩) n c) fp') ((Chg.refl _ _).setCell (List.mem_append_left _ hgf) _) h1 h2 (fun b hb => by
    rcases h3 b hb with h | h
    · exact .inl h
    · exact .inr (.inl h))
  exact h4.tail
end
end Mm
end Go.Proofs.Ytkodfflnpalbbaa

/-
  Contracts: slices.Clone, for the chapters' structs that lead nowhere and for slices of slices (their headers). No conditions.
-/
namespace Go.Proofs.Ytkodfflnpalbbaa
open Go.RowKit
def Mm.encH (h : Mm.Hdr) : List Value := [Mm.hval h]
end Go.Proofs.Ytkodfflnpalbbaa

/-
  Contracts: copies of heads, the program's (cloneHead) and the reference's (l13Own). No conditions beyond those named.
-/
namespace Go.Proofs.Ytkodfflnpalbbaa
open Go.RowKit
attribute [local go_sem] und_cell cha_cell World.cell?_alloc_some
def Mm.encSmpK (x : Sample) : List Value := [.int .i64 x.At, .int .i64 x.Value]
theorem Mm.flatA_smpK : Mm.Flat smp Mm.encSmpK := ⟨fun h => (smp_at h).1, fun h _ => smp_own_mk (smp_at h).2⟩
theorem Try.infoSmpC : (Try.prog.info? 89).map (fun i => (i.zero, i.size, i.bytes)) = some (some (.agg #[.int .i64 0, .int .i64 0]), 2, 16) := by kernel_rfl
set_option maxRecDepth 100000 in
set_option maxHeartbeats 1000000 in
theorem clSmp_c (l : List Sample) (A : Option Addr) (n c : Nat) (w : World) (B : Nat) (hl : Mm.SlAt smp w B l A n c) (hn : n ≤ 1048576) :
    Calls Try.prog 60 #[.slice A n c] w (Mm.NewSl smp 89 w l) := by
  have hlen := Lib.hid hl.1
  have hcap := hl.2.1
  have hq : ∀ (w : World) (a : Option Addr) (n c n' c' : Nat), (binOp .eql 81 (.slice a n c) (.slice none n' c')).run Try.prog w = .ok (.bool a.isNone) w := fun w a n c n' c' => Lib.run_eql_slice_nil w _ _ a n c n' c' Try.underlying81
  cases A with
  | none =>
    have hc : c = 0 := hl.2.2.2.1 rfl
    have hl0 : l = [] := List.length_eq_zero_iff.1 (by rw [hlen.out]; omega)
    subst hl0
    clear hl
    go_enter Try.func60, Try.ntmps60
    go_wp2
    go_ret
    exact (Mm.Acc.nil (Below.refl _ _)).newsl
  | some a =>
    have HC := Lib.hid (Mm.flat_cells' (E := smp) (enc := Mm.encSmpK) (fun x cs h => (Mm.flatA_smpK).at_ h) hl)
    have HLN := Lib.hid (Mm.flat_len (E := smp) (enc := Mm.encSmpK) (fun x cs h => (Mm.flatA_smpK).at_ h) hl)
    have HOK : Hid (∀ (w' : World) x, x ∈ l → (smp).own w' x ((Mm.encSmpK) x) []) := fun w' x hx => by
      obtain ⟨i, hi, rfl⟩ := List.mem_iff_getElem.1 hx
      obtain ⟨y, b, off, cs, hy, _, _, ha, _⟩ := hl.get (k := i) (by rw [← hlen.out]; exact hi)
      rw [List.getElem?_eq_getElem hi] at hy
      injection hy with hy
      subst hy
      exact (Mm.flatA_smpK).own ha w'
    have H1 : Hid (∀ u : Value, u ∈ l.flatMap Mm.encSmpK → u.oneCell' = true) := fun u hu => by
      obtain ⟨x, hx, hu⟩ := List.mem_flatMap.1 hu
      exact (smp).one (HOK.out w x hx) u hu
    clear hl
    obtain ⟨i0, hi, hz0, hz1, hz2⟩ := info_parts Try.infoSmpC
    go_enter Try.func60, Try.ntmps60
    go_wp2_with (at_builtin; refine wpList_append_own_at _ rfl _ _ 81 rfl w.heap.size 89 i0 (.agg #[.int .i64 0, .int .i64 0]) 2 16 Try.underlying81 hi hz0 hz1 hz2 rfl (by decide) _ _ _ rfl (World.ownsRow_made w #[] 0 (Nat.le_refl _) (Nat.zero_le _) rfl) a n c (l.flatMap Mm.encSmpK) rfl HLN.out (fun j u hj => Lib.cell?_alloc_some _ (HC.out j u hj)) H1.out (by unfold maxLen; omega) (by omega) (by simp) ?_; intro v' w1 hown hgrow hnil hat)
    have HA := Lib.hid (Mm.clone_post (E := smp) (e := 89) (Nat.zero_add _) (List.nil_append _) hown hgrow (fun x hx => HOK.out _ x hx) hlen.out)
    clear hown hgrow hat hnil
    go_wp2
    go_ret
    exact HA.out.newsl
theorem Try.infoRowK : (Try.prog.info? 83).map (fun i => (i.zero, i.size, i.bytes)) = some (some (.agg #[.string ByteArray.empty, .slice none 0 0]), 2, 40) := by kernel_rfl
set_option maxRecDepth 100000 in
set_option maxHeartbeats 4000000 in
theorem cloneHead_c (h : Head) (cs : List Value) (w : World) (B : Nat) (hh : rHead.at_ w B h cs) (hB : B ≤ w.heap.size) (hw : Pl.HW h) :
    Calls Try.prog 51 #[.agg cs.toArray] w (Mm.NewAg rHead w h) := by
  obtain ⟨A0, n0, c0, rfl, r0, io⟩ := rHead_at hh
  have g0 := r0.1
  have hn0 : n0 ≤ 8 := by have := hw.len; omega
  have HW := Lib.hid hw
  have G0 := Lib.hid g0
  have R0 := Lib.hid r0
  have IO := Lib.hid io
  have HBW := Lib.hid hB
  obtain ⟨iR, qR, qR0, qR1, qR2⟩ := info_parts Try.infoRowK
  obtain ⟨iS, qS, qS0, qS1, qS2⟩ := info_parts Try.infoSmpK
  clear hh r0 hw g0 io
  obtain ⟨ga, hga⟩ : ∃ g, w.heap.size = g := ⟨_, rfl⟩
  obtain ⟨gc, hgc⟩ : ∃ g, ga + 1 = g := ⟨_, rfl⟩
  obtain ⟨W0, hW0⟩ : ∃ W, (w.alloc (.cells #[.slice A0 n0 c0, .int .i64 h.Offset] 35)).alloc (.cells #[.slice none 0 0, .int .i64 0] 35) = W := ⟨_, rfl⟩
  have HS := Lib.hid ((((Mm.SepF.start w).alloc' hga 35 [.slice A0 n0 c0, .int .i64 h.Offset]).alloc' (g := gc) (by rw [Mm.sz1, hga, hgc]) 35 [.slice none 0 0, .int .i64 0]).atW hW0)
  go_enter Try.func51, Try.ntmps51
  go_upto_region 1 with fail
  clear hW0 hga hgc
  have b0 := HS.out.cell (k := 0) 1 rfl rfl
  have b1 := HS.out.cell (k := 1) 1 rfl rfl
  go_upto_region 2 with fail
  clear b0 b1
  obtain ⟨gp, hgp⟩ : ∃ g, W0.heap.size = g := ⟨_, rfl⟩
  obtain ⟨W6, hW6⟩ : ∃ W, W0.alloc (.cells #[.slice none 0 0, .int .i64 h.Offset] 35) = W := ⟨_, rfl⟩
  have HS6 := Lib.hid ((HS.out.alloc' hgp 35 [.slice none 0 0, .int .i64 h.Offset]).atW hW6)
  rw [hW6, hgp]
  clear hW6 hgp HS
  have KS := Lib.hid (HS6.out.add (Below.refl _ _) (t := Mm.tsl rRow 83 [] (.slice none 0 0) []) Mm.SlOwn.nil List.nodup_nil (fun b hb => by cases hb))
  have b0 := HS6.out.cell (k := 0) 2 rfl rfl
  go_upto_region 3 with fail
  clear b0 HS6
  go_loopg [12] n0 (fun gg i wr => ∃ (k : Nat) (A' : Option Addr) (c' : Nat) (fp : List Nat), n0 - k ≤ gg ∧ k ≤ n0 ∧ i = .int .i64 k ∧ Hid (Mm.SepF [] w wr [Mm.tsl rRow 83 (h.Rows.take k) (.slice A' k c') fp, Mm.tblk gp 35 [.slice A' k c', .int .i64 h.Offset], Mm.tblk gc 35 [.slice none 0 0, .int .i64 0], Mm.tblk ga 35 [.slice A0 n0 c0, .int .i64 h.Offset]]))
  case atStart => exact ⟨0, none, 0, [], Nat.le_refl _, Nat.zero_le _, rfl, KS.out⟩
  case round =>
    clear KS
    obtain ⟨k, A', c', fp, hgk, hk', rfl, HS⟩ := hrel
    obtain ⟨W, rfl⟩ : ∃ W : World, W = wr := ⟨_, rfl⟩
    by_cases hlt : k < n0
    · have fc : (k : Int) < (n0 : Nat) := by omega
      obtain ⟨x, b, off, AH, mH, dH, hx, rfl, hb, hnm, hrd, e0, e1⟩ := rRow_get (R0.out.keep (w' := W) fun b hb => HS.out.bel0.block b (by have := HBW.out; omega)) hlt
      have HNM := Lib.hid hnm
      have HRD := Lib.hid hrd
      have HNX := Lib.hid (Mm.take_succ_some hx)
      have hmH : mH ≤ 40 := by have := (HW.out.ne x (List.mem_of_getElem? hx)).2; have := hrd.1; omega
      have hlk : (h.Rows.take k).length = k := by rw [List.length_take]; have := G0.out; omega
      have HLK := Lib.hid hlk
      have hBW : B ≤ W.heap.size := by have := HBW.out; have := HS.out.bel0.size; omega
      clear hx hrd hlk hnm
      go_upto_region 5 with fail
      obtain ⟨gn, hgn⟩ : ∃ g, W.heap.size = g := ⟨_, rfl⟩
      obtain ⟨W1, hW1⟩ : ∃ V, W.alloc (.cells #[.string x.Name, .slice AH mH dH] 83) = V := ⟨_, rfl⟩
      have HS1 := Lib.hid ((HS.out.alloc' hgn 83 [.string x.Name, .slice AH mH dH]).atW hW1)
      have hb1 : Below W.heap.size W W1 := by rw [← hW1]; exact below_new (Below.refl _ _) _
      rw [hW1, hgn]
      have hsz1 : W.heap.size ≤ W1.heap.size := hb1.size
      have HB1 := Lib.hid hb1
      have HRW := Lib.hid (show Mm.SlAt smp W1.drew B x.Samples AH mH dH from HRD.out.keep (fun b hb => hb1.block b (by omega)))
      clear hW1 e0 e1 hb1 HS hgn
      have q0 := HS1.out.cell (k := 0) 0 rfl rfl
      have q1 := HS1.out.cell (k := 1) 0 rfl rfl
      have b0 := HS1.out.cell (k := 0) 2 rfl rfl
      have y0 := HS1.out.frz (k := 0) 2 rfl
      go_region_law (first
        | (go_simp; go_at_call 60; refine (clSmp_c x.Samples AH mH dH _ B HRW.out (by omega)).mono ?_; rintro e w1 ⟨A2, m2, c2, fp2, rfl, ho, hnd, hnew, hb1⟩; (have hs1 := (HS1.out.step (Below.refl _ _).drew).add hb1 (t := Mm.tsl smp 89 x.Samples (.slice A2 m2 c2) fp2) ho hnd hnew); obtain ⟨l0, ho3, hnext⟩ := hs1.push (W2 := w1.alloc (.cells #[.string x.Name, .slice A2 m2 c2] 83)) 2 0 (by decide) rfl rfl (below_new (Below.refl _ _) _) (x := x) (cx := [.string x.Name, .slice A2 m2 c2]) (fun W h => rRow_own_mk HNM.out h); rw [HLK.out] at ho3 hnext; (have HNXT := Lib.hid hnext); (have HS2 := Lib.hid hs1); (have q0 := hs1.cell (k := 0) 1 rfl rfl); (have q1 := hs1.cell (k := 1) 1 rfl rfl); (have b0 := hs1.cell (k := 0) 3 rfl rfl); (have y0 := hs1.frz (k := 0) 3 rfl); clear hnext hs1 hb1 ho hnd hnew)
        | (refine step_append_lies _ (by rfl) (.tmp 17) (.tmp 24) 33 (by rfl) 0 83 iR _ 2 40 Try.underlying33 qR qR0 qR1 qR2 rfl (by omega) (.slice A' k c') k l0 (by rfl) ho3 ⟨w1.heap.size, 0, none⟩ 1 1 [.string x.Name, .slice A2 m2 c2] (by rfl) (by rfl) (World.news_of_block (B := w1.heap.size) (cs := #[.string x.Name, .slice A2 m2 c2]) (t := 83) (fr := (0, 0)) (heap_alloc_new w1 _)) (by simp [Value.oneCell']) (by omega) (by unfold maxLen; omega) (by omega) (Nat.zero_le _) _ rfl ?_; intro gg cap w4 hown1 hgrow hat hlt'; obtain ⟨fp', hs4⟩ := HNXT.out gg cap w4 hown1 hgrow hat; (have HS4 := Lib.hid hs4); (have b0 := HS4.out.cell (k := 0) 3 rfl rfl); (have y0 := HS4.out.frz (k := 0) 3 rfl); clear hs4 hown1 hgrow hat))
      all_goals
        go_wp2
        go_roundg (n0 - (k + 1))
        case measure => omega
        case rel => exact ⟨k + 1, _, cap, fp', Nat.le_refl _, by omega, by go_num, by rw [HNX.out]; exact (HS4.out.setBlk (k := 0) 3 rfl _).sel [2, 3, 4, 5] (by decide) rfl⟩
    · obtain rfl : k = n0 := by omega
      have HE : Hid (h.Rows.take k = h.Rows) := Lib.hid (List.take_of_length_le (by have := G0.out; omega))
      rw [HE.out] at HS
      have fc : ¬ ((k : Nat) : Int) < (k : Nat) := by omega
      have b0 := HS.out.cell (k := 0) 1 rfl rfl
      have b1 := HS.out.cell (k := 1) 1 rfl rfl
      have o0 := HS.out.cell (k := 0) 2 rfl rfl
      have o1 := HS.out.cell (k := 1) 2 rfl rfl
      have z0 := HS.out.frz (k := 0) 2 rfl
      have z1 := HS.out.frz (k := 1) 2 rfl
      have HSF := Lib.hid ((HS.out.setBlk (k := 0) 2 rfl (.slice A' k c')).setBlk (k := 1) 2 rfl (.int .i64 h.Offset))
      have u0 := HSF.out.cell (k := 0) 2 rfl rfl
      have u1 := HSF.out.cell (k := 1) 2 rfl rfl
      go_wp2
      exact bodyPost_ret (v := .agg #[.slice A' k c', .int .i64 h.Offset]) (by simp [results, Try.results51, go_sem, u0, u1]) rfl ⟨_, fp, rfl, rHead_own_mk (HSF.out.sl 0 rfl) IO.out, HSF.out.ndat (i := 0) rfl, fun b hb => (HSF.out.new b (Mm.SepF.mem (i := 0) rfl hb)).resolve_left (fun h => by cases h), HSF.out.bel0⟩
set_option maxRecDepth 100000 in
set_option maxHeartbeats 4000000 in
theorem l13Own_c (h : Head) (cs : List Value) (w : World) (B : Nat) (hh : rHead.at_ w B h cs) (hB : B ≤ w.heap.size) (hw : Pl.HW h) :
    Calls Try.prog 31 #[.agg cs.toArray] w (Mm.NewAg rHead w h) := by
  obtain ⟨A0, n0, c0, rfl, r0, io⟩ := rHead_at hh
  have g0 := r0.1
  have hn0 : n0 ≤ 8 := by have := hw.len; omega
  have HW := Lib.hid hw
  have G0 := Lib.hid g0
  have R0 := Lib.hid r0
  have IO := Lib.hid io
  have HBW := Lib.hid hB
  obtain ⟨iR, qR, qR0, qR1, qR2⟩ := info_parts Try.infoRowK
  obtain ⟨iS, qS, qS0, qS1, qS2⟩ := info_parts Try.infoSmpK
  clear hh r0 hw g0 io
  obtain ⟨ga, hga⟩ : ∃ g, w.heap.size = g := ⟨_, rfl⟩
  obtain ⟨gc, hgc⟩ : ∃ g, ga + 1 = g := ⟨_, rfl⟩
  obtain ⟨W0, hW0⟩ : ∃ W, (w.alloc (.cells #[.slice A0 n0 c0, .int .i64 h.Offset] 35)).alloc (.cells #[.slice none 0 0, .int .i64 0] 35) = W := ⟨_, rfl⟩
  have HS := Lib.hid ((((Mm.SepF.start w).alloc' hga 35 [.slice A0 n0 c0, .int .i64 h.Offset]).alloc' (g := gc) (by rw [Mm.sz1, hga, hgc]) 35 [.slice none 0 0, .int .i64 0]).atW hW0)
  go_enter Try.func31, Try.ntmps31
  go_upto_region 1 with fail
  clear hW0 hga hgc
  have b0 := HS.out.cell (k := 0) 1 rfl rfl
  have b1 := HS.out.cell (k := 1) 1 rfl rfl
  go_upto_region 2 with fail
  clear b0 b1
  obtain ⟨gp, hgp⟩ : ∃ g, W0.heap.size = g := ⟨_, rfl⟩
  obtain ⟨W6, hW6⟩ : ∃ W, W0.alloc (.cells #[.slice none 0 0, .int .i64 h.Offset] 35) = W := ⟨_, rfl⟩
  have HS6 := Lib.hid ((HS.out.alloc' hgp 35 [.slice none 0 0, .int .i64 h.Offset]).atW hW6)
  rw [hW6, hgp]
  clear hW6 hgp HS
  have KS := Lib.hid (HS6.out.add (Below.refl _ _) (t := Mm.tsl rRow 83 [] (.slice none 0 0) []) Mm.SlOwn.nil List.nodup_nil (fun b hb => by cases hb))
  have b0 := HS6.out.cell (k := 0) 2 rfl rfl
  go_upto_region 3 with fail
  clear b0 HS6
  go_loopg [12] n0 (fun gg i wr => ∃ (k : Nat) (A' : Option Addr) (c' : Nat) (fp : List Nat), n0 - k ≤ gg ∧ k ≤ n0 ∧ i = .int .i64 k ∧ Hid (Mm.SepF [] w wr [Mm.tsl rRow 83 (h.Rows.take k) (.slice A' k c') fp, Mm.tblk gp 35 [.slice A' k c', .int .i64 h.Offset], Mm.tblk gc 35 [.slice none 0 0, .int .i64 0], Mm.tblk ga 35 [.slice A0 n0 c0, .int .i64 h.Offset]]))
  case atStart => exact ⟨0, none, 0, [], Nat.le_refl _, Nat.zero_le _, rfl, KS.out⟩
  case round =>
    clear KS
    obtain ⟨k, A', c', fp, hgk, hk', rfl, HS⟩ := hrel
    obtain ⟨W, rfl⟩ : ∃ W : World, W = wr := ⟨_, rfl⟩
    by_cases hlt : k < n0
    · have fc : (k : Int) < (n0 : Nat) := by omega
      obtain ⟨x, b, off, AH, mH, dH, hx, rfl, hb, hnm, hrd, e0, e1⟩ := rRow_get (R0.out.keep (w' := W) fun b hb => HS.out.bel0.block b (by have := HBW.out; omega)) hlt
      have HNM := Lib.hid hnm
      have HRD := Lib.hid hrd
      have HNX := Lib.hid (Mm.take_succ_some hx)
      have hmH : mH ≤ 40 := by have := (HW.out.ne x (List.mem_of_getElem? hx)).2; have := hrd.1; omega
      have hlk : (h.Rows.take k).length = k := by rw [List.length_take]; have := G0.out; omega
      have HLK := Lib.hid hlk
      have hBW : B ≤ W.heap.size := by have := HBW.out; have := HS.out.bel0.size; omega
      clear hx hrd hlk hnm
      go_upto_region 5 with fail
      obtain ⟨gn, hgn⟩ : ∃ g, W.heap.size = g := ⟨_, rfl⟩
      obtain ⟨W1, hW1⟩ : ∃ V, W.alloc (.cells #[.string x.Name, .slice AH mH dH] 83) = V := ⟨_, rfl⟩
      have HS1 := Lib.hid ((HS.out.alloc' hgn 83 [.string x.Name, .slice AH mH dH]).atW hW1)
      have hb1 : Below W.heap.size W W1 := by rw [← hW1]; exact below_new (Below.refl _ _) _
      rw [hW1, hgn]
      have hsz1 : W.heap.size ≤ W1.heap.size := hb1.size
      have HB1 := Lib.hid hb1
      have HRW := Lib.hid (show Mm.SlAt smp W1.drew B x.Samples AH mH dH from HRD.out.keep (fun b hb => hb1.block b (by omega)))
      clear hW1 e0 e1 hb1 HS hgn
      have q0 := HS1.out.cell (k := 0) 0 rfl rfl
      have q1 := HS1.out.cell (k := 1) 0 rfl rfl
      have b0 := HS1.out.cell (k := 0) 2 rfl rfl
      have y0 := HS1.out.frz (k := 0) 2 rfl
      have HSP := Lib.hid HS1.out.toSep
      have HRW2 := Lib.hid (show Mm.SlAt smp (W1.alloc (.cells #[] 89)).drew B x.Samples AH mH dH from HRD.out.keep (fun b hb => (Below.heap_alloc W1 _ b (by omega)).trans (HB1.out.block b (by omega))))
      go_region_law (first
        | (refine Mm.step_clone (by rfl) (.tmp 20) (.tmp 22) 81 (by rfl) Mm.flatA_smpK iS _ 16 Try.underlying81 qS qS0 qS1 qS2 rfl (by decide) HSP.out ((below_new (Below.refl W1.heap.size W1) (.cells #[] 89)).drew) (heap_alloc_new W1 _) (Nat.le_refl _) HRW2.out (by unfold maxLen; omega) (by omega) (by rfl) (by rfl) ?_; intro A2 c2 fp2 w1 hs0 hb1; (have hs1 := hs0.toF); obtain ⟨l0, ho3, hnext⟩ := hs1.push (W2 := w1.alloc (.cells #[.string x.Name, .slice A2 mH c2] 83)) 2 0 (by decide) rfl rfl (below_new (Below.refl _ _) _) (x := x) (cx := [.string x.Name, .slice A2 mH c2]) (fun W h => rRow_own_mk HNM.out h); rw [HLK.out] at ho3 hnext; (have HNXT := Lib.hid hnext); (have HS2 := Lib.hid hs1); (have q0 := hs1.cell (k := 0) 1 rfl rfl); (have q1 := hs1.cell (k := 1) 1 rfl rfl); (have b0 := hs1.cell (k := 0) 3 rfl rfl); (have y0 := hs1.frz (k := 0) 3 rfl); clear hnext hs1 hs0 hb1)
        | (refine step_append_lies _ (by rfl) (.tmp 17) (.tmp 25) 33 (by rfl) 0 83 iR _ 2 40 Try.underlying33 qR qR0 qR1 qR2 rfl (by omega) (.slice A' k c') k l0 (by rfl) ho3 ⟨w1.heap.size, 0, none⟩ 1 1 [.string x.Name, .slice A2 mH c2] (by rfl) (by rfl) (World.news_of_block (B := w1.heap.size) (cs := #[.string x.Name, .slice A2 mH c2]) (t := 83) (fr := (0, 0)) (heap_alloc_new w1 _)) (by simp [Value.oneCell']) (by omega) (by unfold maxLen; omega) (by omega) (Nat.zero_le _) _ rfl ?_; intro gg cap w4 hown1 hgrow hat hlt'; obtain ⟨fp', hs4⟩ := HNXT.out gg cap w4 hown1 hgrow hat; (have HS4 := Lib.hid hs4); (have b0 := HS4.out.cell (k := 0) 3 rfl rfl); (have y0 := HS4.out.frz (k := 0) 3 rfl); clear hs4 hown1 hgrow hat))
      all_goals
        go_wp2
        go_roundg (n0 - (k + 1))
        case measure => omega
        case rel => exact ⟨k + 1, _, cap, fp', Nat.le_refl _, by omega, by go_num, by rw [HNX.out]; exact (HS4.out.setBlk (k := 0) 3 rfl _).sel [2, 3, 4, 5] (by decide) rfl⟩
    · obtain rfl : k = n0 := by omega
      have HE : Hid (h.Rows.take k = h.Rows) := Lib.hid (List.take_of_length_le (by have := G0.out; omega))
      rw [HE.out] at HS
      have fc : ¬ ((k : Nat) : Int) < (k : Nat) := by omega
      have b0 := HS.out.cell (k := 0) 1 rfl rfl
      have b1 := HS.out.cell (k := 1) 1 rfl rfl
      have o0 := HS.out.cell (k := 0) 2 rfl rfl
      have o1 := HS.out.cell (k := 1) 2 rfl rfl
      have z0 := HS.out.frz (k := 0) 2 rfl
      have z1 := HS.out.frz (k := 1) 2 rfl
      have HSF := Lib.hid ((HS.out.setBlk (k := 0) 2 rfl (.slice A' k c')).setBlk (k := 1) 2 rfl (.int .i64 h.Offset))
      have u0 := HSF.out.cell (k := 0) 2 rfl rfl
      have u1 := HSF.out.cell (k := 1) 2 rfl rfl
      go_wp2
      exact bodyPost_ret (v := .agg #[.slice A' k c', .int .i64 h.Offset]) (by simp [results, Try.results31, go_sem, u0, u1]) rfl ⟨_, fp, rfl, rHead_own_mk (HSF.out.sl 0 rfl) IO.out, HSF.out.ndat (i := 0) rfl, fun b hb => (HSF.out.new b (Mm.SepF.mem (i := 0) rfl hb)).resolve_left (fun h => by cases h), HSF.out.bel0⟩
end Go.Proofs.Ytkodfflnpalbbaa

/-
  Contracts: isSay, l13Say; measurements put into a head one after another, the program's (foldSays). No conditions beyond those named.
-/
namespace Go.Proofs.Ytkodfflnpalbbaa
open Go.RowKit
attribute [local go_sem] und_cell cha_cell World.cell?_alloc_some
theorem Mm.SepF.headIn {F : List Nat} {w0 wr : World} {ts : List Mm.Thing} {g : Nat} {x : Head} {cs : List Value} {fp : List Nat} (h : Mm.SepF F w0 wr (Mm.tblk g 35 cs :: Mm.tow rHead x cs fp :: ts)) : Mm.SepF F w0 wr (Mm.tsl rHead 35 [x] (.slice (some ⟨g, 0, none⟩) 1 1) (g :: fp) :: ts) := by
  refine Mm.SepF.headOne (h.conv (us := Mm.tptr rHead 35 g x fp :: ts) (by simp [Mm.tptr, Mm.tblk, Mm.tow]) (List.forall_mem_cons.2 ⟨⟨cs, h.at_ 0 rfl, h.at_ 1 rfl⟩, fun u hu => h.hold u (List.mem_cons_of_mem _ (List.mem_cons_of_mem _ hu))⟩))
theorem Mm.SepF.headOut {F : List Nat} {w0 wr : World} {ts : List Mm.Thing} {g : Nat} {x : Head} {fp : List Nat} (h : Mm.SepF F w0 wr (Mm.tsl rHead 35 [x] (.slice (some ⟨g, 0, none⟩) 1 1) fp :: ts)) : ∃ A n c fp', Mm.SepF F w0 wr (Mm.tblk g 35 [.slice A n c, .int .i64 x.Offset] :: Mm.tow rHead x [.slice A n c, .int .i64 x.Offset] fp' :: ts) := by
  obtain ⟨fp', h1⟩ := h.headPtr
  obtain ⟨cs, hb, ho⟩ : ∃ cs, Mm.Blk wr g 35 cs ∧ rHead.own wr x cs fp' := h1.at_ 0 rfl
  obtain ⟨A, n, c, f, rfl, -⟩ := rHead_own ho
  refine ⟨A, n, c, fp', h1.conv (by simp [Mm.tptr, Mm.tblk, Mm.tow]) (List.forall_mem_cons.2 ⟨hb, List.forall_mem_cons.2 ⟨ho, fun u hu => h1.hold u (List.mem_cons_of_mem _ hu)⟩⟩)⟩
set_option maxRecDepth 100000 in
theorem isSay_c (x : Say) (w : World) (hn : x.Name.size ≤ maxLen) :
    Calls Try.prog 34 #[.agg #[.string x.Name, .int .i64 x.At, .int .i64 x.Value]] w fun e w' => e = .returned (.bool (Pl.sayOk x)) ∧ Below w.heap.size w w' := by
  have HF : Hid (Pl.sayOk x = (Pl.word false x.Name.data.toList && Pl.sampleOk ⟨x.At, x.Value⟩)) := rfl
  have HB := Lib.hid (below_new (Below.refl w.heap.size w) (.cells #[.string x.Name, .int .i64 x.At, .int .i64 x.Value] 61))
  have CW := fun W => isWord_c x.Name false W hn
  cases hw : Pl.word false x.Name.data.toList with
  | false =>
    rw [hw] at CW
    rw [HF.out, hw]
    clear hw
    go_enter Try.func34, Try.ntmps34
    go_wp2_with (go_at_call 49; (with_reducible refine (CW _).mono ?_); clear CW; rintro e w' ⟨rfl, rfl⟩)
    go_ret
    exact ⟨rfl, HB.out⟩
  | true =>
    rw [hw] at CW
    rw [HF.out, hw]
    have CS := fun W => isSample_c ⟨x.At, x.Value⟩ W
    obtain ⟨sb, hsb⟩ : ∃ sb, Pl.sampleOk ⟨x.At, x.Value⟩ = sb := ⟨_, rfl⟩
    rw [hsb] at CS ⊢
    clear hw hsb
    go_enter Try.func34, Try.ntmps34
    go_wp2_with first
      | (go_at_call 49; (with_reducible refine (CW _).mono ?_); clear CW; rintro e w' ⟨rfl, rfl⟩)
      | (go_at_call 50; (with_reducible refine (CS _).mono ?_); clear CS; rintro e w2 ⟨rfl, hb2⟩)
    go_ret
    exact ⟨ret_bool (by simp), below_step HB.out hb2⟩
set_option maxRecDepth 100000 in
theorem l13Say_c (x : Say) (w : World) (hn : x.Name.size ≤ maxLen) :
    Calls Try.prog 30 #[.agg #[.string x.Name, .int .i64 x.At, .int .i64 x.Value]] w fun e w' => e = .returned (.bool (Pl.sayOk x)) ∧ Below w.heap.size w w' := by
  have HF : Hid (Pl.sayOk x = (Pl.word false x.Name.data.toList && (Pl.isIn x.At 0 1000000000 && Pl.isIn x.Value (-1000000000) 1000000000))) := rfl
  have HB := Lib.hid (below_new (Below.refl w.heap.size w) (.cells #[.string x.Name, .int .i64 x.At, .int .i64 x.Value] 61))
  have CW := fun W => l3Name_c x.Name false W hn
  have C1 := fun W => l1In_c x.At 0 1000000000 W
  have C2 := fun W => l1In_c x.Value (-1000000000) 1000000000 W
  rw [HF.out]
  obtain ⟨b1, h1⟩ : ∃ b, Pl.word false x.Name.data.toList = b := ⟨_, rfl⟩
  obtain ⟨b2, h2⟩ : ∃ b, Pl.isIn x.At 0 1000000000 = b := ⟨_, rfl⟩
  obtain ⟨b3, h3⟩ : ∃ b, Pl.isIn x.Value (-1000000000) 1000000000 = b := ⟨_, rfl⟩
  rw [h1] at CW ⊢
  rw [h2] at C1 ⊢
  rw [h3] at C2 ⊢
  clear h1 h2 h3 HF
  cases b1 <;> cases b2
  all_goals
    go_enter Try.func30, Try.ntmps30
    go_wp2_with first
      | (go_at_call 46; (with_reducible refine (CW _).mono ?_); clear CW; rintro e w' ⟨rfl, rfl⟩)
      | (go_at_call 19; (with_reducible refine (C1 _).mono ?_); clear C1; rintro e w' ⟨rfl, rfl⟩)
      | (go_at_call 19; (with_reducible refine (C2 _).mono ?_); clear C2; rintro e w' ⟨rfl, rfl⟩)
    go_ret
    exact ⟨ret_bool (by simp), HB.out⟩
end Go.Proofs.Ytkodfflnpalbbaa

/-
  Contract: measurements put into a head one after another, the program's (foldSays). No conditions beyond those named.
-/
namespace Go.Proofs.Ytkodfflnpalbbaa
open Go.RowKit
attribute [local go_sem] und_cell cha_cell World.cell?_alloc_some
theorem Try.infoIntK : (Try.prog.info? 3).map (fun i => (i.zero, i.size, i.bytes)) = some (some (.int .i64 0), 1, 8) := by kernel_rfl
def FoldAns (h : Head) (l : List Say) (w : World) (e : Ending) (w' : World) : Prop :=
  ∃ cs fp A n c fq, e = .returned (.tuple #[.agg cs.toArray, .slice A n c, .bool true]) ∧ Mm.SepF [] w w' [Mm.tow rHead (Pl.foldS h l) cs fp, Mm.tsl Mm.int 3 (Pl.foldC h l) (.slice A n c) fq]
set_option maxRecDepth 100000 in
set_option maxHeartbeats 4000000 in
theorem foldSays_c (h : Head) (cs : List Value) (l : List Say) (A : Option Addr) (n c : Nat) (w : World) (B : Nat) (hh : rHead.at_ w B h cs) (hl : Mm.SlAt rSay w B l A n c) (hB : B ≤ w.heap.size) (hw : Pl.HW h) (hok : ∀ x, x ∈ l → Pl.sayOk x = true) (ho : 0 ≤ h.Offset ∧ h.Offset + n ≤ 1000) :
    Calls Try.prog 35 #[.agg cs.toArray, .slice A n c] w (FoldAns h l w) := by
  obtain ⟨A0, n0, c0, rfl, r0, io⟩ := rHead_at hh
  have HL := Lib.hid hl
  have HLN : Hid (l.length = n) := hl.1
  have HOK := Lib.hid hok
  have HW := Lib.hid hw
  have ho0 := ho.1
  have ho1 := ho.2
  have R0 := Lib.hid r0
  have HBW := Lib.hid hB
  have IO := Lib.hid io
  clear hh hl hok hw ho r0 hB io
  obtain ⟨iI, qI, qI0, qI1, qI2⟩ := info_parts Try.infoIntK
  obtain ⟨ga, hga⟩ : ∃ g, w.heap.size = g := ⟨_, rfl⟩
  obtain ⟨gc, hgc⟩ : ∃ g, ga + 1 = g := ⟨_, rfl⟩
  obtain ⟨W0, hW0⟩ : ∃ W, (w.alloc (.cells #[.slice A0 n0 c0, .int .i64 h.Offset] 35)).alloc (.cells #[.slice none 0 0, .int .i64 0] 35) = W := ⟨_, rfl⟩
  have HS := Lib.hid ((((Mm.SepF.start w).alloc' hga 35 [.slice A0 n0 c0, .int .i64 h.Offset]).alloc' (g := gc) (by rw [Mm.sz1, hga, hgc]) 35 [.slice none 0 0, .int .i64 0]).atW hW0)
  go_enter Try.func35, Try.ntmps35
  go_upto_region 1 with fail
  clear hW0 hga hgc
  have b0 := HS.out.cell (k := 0) 1 rfl rfl
  have b1 := HS.out.cell (k := 1) 1 rfl rfl
  have hbw0 := HS.out.bel0
  have CC := cloneHead_c h [.slice A0 n0 c0, .int .i64 h.Offset] W0 B (rHead_at_mk (R0.out.keep fun b hb => hbw0.block b (by have := HBW.out; omega)) IO.out) (by have := HBW.out; have := hbw0.size; omega) HW.out
  go_upto_region 2 with (go_at_call 51; (with_reducible refine CC.mono ?_); clear CC; rintro e w5 ⟨cs1, f1, rfl, ho, hnd, hnew, hb5⟩; obtain ⟨A1, n1, c1, -, rfl, -⟩ := rHead_own ho; (have HS5 := Lib.hid (HS.out.add hb5 (t := Mm.tow rHead h [.slice A1 n1 c1, .int .i64 h.Offset] f1) ho hnd hnew)); clear ho hnd hnew hb5)
  clear b0 b1 hbw0
  obtain ⟨gp, hgp⟩ : ∃ g, w5.heap.size = g := ⟨_, rfl⟩
  obtain ⟨W6, hW6⟩ : ∃ W, w5.alloc (.cells #[.slice A1 n1 c1, .int .i64 h.Offset] 35) = W := ⟨_, rfl⟩
  have HS6 := Lib.hid (((HS5.out.alloc' hgp 35 [.slice A1 n1 c1, .int .i64 h.Offset]).atW hW6).headIn)
  rw [hW6, hgp]
  clear hW6 hgp HS HS5
  have KS := Lib.hid (HS6.out.add (Below.refl _ _) (t := Mm.tsl Mm.int 3 [] (.slice none 0 0) []) Mm.SlOwn.nil List.nodup_nil (fun b hb => by cases hb))
  go_upto_region 4 with fail
  clear HS6
  go_loopg [8, 15] n (fun gg s8 i wr => ∃ (k : Nat) (A' : Option Addr) (c' : Nat) (fq fp : List Nat), n - k ≤ gg ∧ k ≤ n ∧ s8 = .slice A' k c' ∧ i = .int .i64 k ∧ Hid (Mm.SepF [] w wr [Mm.tsl Mm.int 3 (Pl.foldC h (l.take k)) (.slice A' k c') fq, Mm.tsl rHead 35 [Pl.foldS h (l.take k)] (.slice (some ⟨gp, 0, none⟩) 1 1) fp, Mm.tblk gc 35 [.slice none 0 0, .int .i64 0]]))
  case atStart => exact ⟨0, none, 0, [], gp :: f1, Nat.le_refl _, Nat.zero_le _, rfl, rfl, KS.out.sel [0, 1, 2] (by decide) rfl⟩
  case round =>
    clear KS
    obtain ⟨k, A', c', fq, fp, hgk, hk', rfl, rfl, HS⟩ := hrel
    obtain ⟨W, rfl⟩ : ∃ W : World, W = wr := ⟨_, rfl⟩
    by_cases hlt : k < n
    · as_aux_lemma =>
      have fc : (k : Int) < (n : Nat) := by omega
      obtain ⟨x, b, off, hx, rfl, hb, hnm, ia, iv, e0, e1, e2⟩ := rSay_get (HL.out.keep (w' := W) fun b hb => HS.out.bel0.block b (by have := HBW.out; omega)) hlt
      have HNX := Lib.hid (Pl.fold_next (h := h) hx)
      have HXK := Lib.hid (HOK.out x (List.mem_of_getElem? hx))
      have HIX := Lib.hid (And.intro hnm (And.intro ia iv))
      clear hx hnm ia iv
      go_upto_region 6 with fail
      obtain ⟨gn, hgn⟩ : ∃ g, W.heap.size = g := ⟨_, rfl⟩
      obtain ⟨W1, hW1⟩ : ∃ V, W.alloc (.cells #[.string x.Name, .int .i64 x.At, .int .i64 x.Value] 61) = V := ⟨_, rfl⟩
      have HS1 := Lib.hid ((HS.out.alloc' hgn 61 [.string x.Name, .int .i64 x.At, .int .i64 x.Value]).atW hW1)
      rw [hW1, hgn]
      clear hW1 e0 e1 e2 HS hgn
      obtain ⟨fk, hfk⟩ : ∃ fk, Pl.foldS h (l.take k) = fk := ⟨_, rfl⟩
      have hof : fk.Offset = h.Offset + k := by rw [← hfk, Pl.foldS_off, List.length_take]; have := HLN.out; congr 1; omega
      have HFW : Hid (Pl.HW fk) := Lib.hid (by rw [← hfk]; exact HW.out.fold _)
      have HFK := Lib.hid hfk
      rw [hfk] at HS1 HNX
      obtain ⟨of, hofe⟩ : ∃ of, fk.Offset = of := ⟨_, rfl⟩
      have hof1 : 0 ≤ of ∧ of < 1000 := by rw [← hofe, hof]; omega
      have HOF := Lib.hid hofe
      have q0 := HS1.out.cell (k := 0) 0 rfl rfl
      have q1 := HS1.out.cell (k := 1) 0 rfl rfl
      have q2 := HS1.out.cell (k := 2) 0 rfl rfl
      have CI := isSay_c x W1 HIX.out.1
      rw [HXK.out] at CI
      have g1 : (of == 1000) = false := by rw [beq_eq_false_iff_ne]; omega
      clear hfk hof hofe
      go_upto_region 8 with (go_at_call 34; (with_reducible refine CI.mono ?_); clear CI; rintro e w2 ⟨rfl, hb2⟩; (have HS2 := Lib.hid (HS1.out.step hb2)); obtain ⟨_, _, _, _, -, o1, -, -, -, -, -, -, -⟩ := HS2.out.headRows 2 rfl (k := 0) rfl; rw [Nat.zero_mul, Nat.zero_add, HOF.out] at o1; clear hb2 q0 q1 q2; (have q0 := HS2.out.cell (k := 0) 0 rfl rfl); (have q1 := HS2.out.cell (k := 1) 0 rfl rfl); (have q2 := HS2.out.cell (k := 2) 0 rfl rfl))
      clear o1 HS1
      have CT := take_c x [fk] gp 1 1 0 fp fk w2 (HS2.out.sl 2 rfl) (HS2.out.ndat (i := 2) rfl) ⟨rfl, HFW.out, by rw [HOF.out]; omega, by omega, HIX.out.1, HIX.out.2.1, HIX.out.2.2⟩
      rw [Nat.zero_mul] at CT
      have HCD := Lib.hid (Pl.takeS_code fk x)
      have HCI : Hid (Mm.I64 (Pl.takeS fk x).2) := Lib.hid (by have := HCD.out; unfold Mm.I64; omega)
      have HCL : Hid ((Pl.foldC h (l.take k)).length = k) := Lib.hid (by rw [Pl.foldC_len, List.length_take]; have := HLN.out; omega)
      obtain ⟨cd, hcd⟩ : ∃ cd, (Pl.takeS fk x).2 = cd := ⟨_, rfl⟩
      unfold TakeAns at CT
      rw [hcd] at CT HCI HNX
      clear hcd
      go_wp2_with first
        | (go_at_call 52; (with_reducible refine CT.mono ?_); clear CT; rintro e w3 ⟨rfl, fp3, hS⟩; (have HS3 := Lib.hid (HS2.out.call 2 rfl hS.left)); clear hS)
        | (at_builtin; refine Mm.app_list (x := cd) HS3.out 1 rfl rfl (.tmp 28) (.tmp 31) 68 rfl iI _ 8 Try.underlying68 qI qI0 qI1 qI2 rfl (by decide) rfl rfl (fun W => ⟨rfl, HCI.out, rfl⟩) HCL.out (by unfold maxLen; omega) (by omega) ?_; intro g cap w' fp' hs; (have HS4 := Lib.hid hs); clear hs)
      go_roundg (n - (k + 1))
      case measure => omega
      case rel => exact ⟨k + 1, _, cap, fp', fp3, Nat.le_refl _, by omega, rfl, by go_num, by rw [HNX.out.1, HNX.out.2]; exact HS4.out.sel [1, 2, 3] (by decide) rfl⟩
    · as_aux_lemma =>
      obtain rfl : k = n := by omega
      have HE : Hid (l.take k = l) := Lib.hid (List.take_of_length_le (by have := HLN.out; omega))
      rw [HE.out] at HS
      have fc : ¬ ((k : Nat) : Int) < (k : Nat) := by omega
      have HS1 := Lib.hid (HS.out.sel [1, 0, 2] (by decide) rfl)
      obtain ⟨A2, n2, c2, f2, hS2⟩ := HS1.out.headOut
      have HS2 := Lib.hid hS2
      clear hS2 HS HS1
      have b0 := HS2.out.cell (k := 0) 0 rfl rfl
      have b1 := HS2.out.cell (k := 1) 0 rfl rfl
      have o0 := HS2.out.cell (k := 0) 3 rfl rfl
      have o1 := HS2.out.cell (k := 1) 3 rfl rfl
      have z0 := HS2.out.frz (k := 0) 3 rfl
      have z1 := HS2.out.frz (k := 1) 3 rfl
      obtain ⟨of, hofe⟩ : ∃ of, (Pl.foldS h l).Offset = of := ⟨_, rfl⟩
      have HOF := Lib.hid hofe
      have HSF := Lib.hid ((HS2.out.setBlk (k := 0) 3 rfl (.slice A2 n2 c2)).setBlk (k := 1) 3 rfl (.int .i64 (Pl.foldS h l).Offset))
      rw [hofe] at b1 HSF
      have u0 := HSF.out.cell (k := 0) 3 rfl rfl
      have u1 := HSF.out.cell (k := 1) 3 rfl rfl
      clear hofe
      go_wp2
      exact bodyPost_ret (v := .tuple #[.agg #[.slice A2 n2 c2, .int .i64 of], .slice A' k c', .bool true]) (by simp [results, Try.results35, go_sem, u0, u1]) rfl ⟨_, f2, A', k, c', fq, rfl, HSF.out.sel [1, 2] (by decide) rfl⟩
end Go.Proofs.Ytkodfflnpalbbaa

/-
  Contract: PlayPlain of the program. No conditions beyond those named.
-/
namespace Go.Proofs.Ytkodfflnpalbbaa
open Go.RowKit
attribute [local go_sem] und_cell cha_cell World.cell?_alloc_some
theorem Try.infoSayK : (Try.prog.info? 61).map (fun i => (i.zero, i.size, i.bytes)) = some (some (.agg #[.string ByteArray.empty, .int .i64 0, .int .i64 0]), 3, 32) := by kernel_rfl
theorem zHead_own {w : World} : rHead.own w ⟨[], 0⟩ [.slice none 0 0, .int .i64 0] [] := by
  have h := rHead_own_mk (w := w) (x := ⟨[], 0⟩) (A := none) (n := 0) (c := 0) (f := []) Mm.SlOwn.nil (by constructor <;> (dsimp only; omega))
  exact h
theorem zHead_at {w : World} {B : Nat} : rHead.at_ w B ⟨[], 0⟩ [.slice none 0 0, .int .i64 0] := by
  have h := rHead_at_mk (w := w) (B := B) (x := ⟨[], 0⟩) (A := none) (n := 0) (c := 0) (Mm.SlAt.nil (Nat.zero_le _) (fun _ => rfl)) (by constructor <;> (dsimp only; omega))
  exact h
set_option maxRecDepth 100000 in
set_option maxHeartbeats 4000000 in
theorem implPlayPlain_c (l : List HouseStep) (A : Option Addr) (n c : Nat) (w : World) (B : Nat) (hl : Mm.SlAt rHouseStep w B l A n c) (hB : B ≤ w.heap.size) :
    Calls Try.prog 13 #[.slice A n c] w (Mm.Ret2 rHead w (Pl.playPlain l).1 (Pl.playPlain l).2) := by
  have HL := Lib.hid hl
  have HLN : Hid (l.length = n) := hl.1
  have hnm : n ≤ 9223372036854775807 := by have := hl.2.1; have := hl.2.2.1; unfold maxLen at this; omega
  have HBW := Lib.hid hB
  clear hl hB
  obtain ⟨gr, hgr⟩ : ∃ g, w.heap.size = g := ⟨_, rfl⟩
  obtain ⟨W0, hW0⟩ : ∃ W, w.alloc (.cells #[.slice none 0 0, .int .i64 0] 35) = W := ⟨_, rfl⟩
  have HS := Lib.hid (((Mm.SepF.start w).alloc' hgr 35 [.slice none 0 0, .int .i64 0]).atW hW0)
  by_cases h60 : 60 < n
  · have HF : Hid (Pl.playPlain l = (⟨[], 0⟩, false)) := Lib.hid (if_neg (by have := HLN.out; omega))
    have f1 : (60 : Int) < (n : Nat) := by omega
    rw [HF.out]
    go_enter Try.func13, Try.ntmps13
    go_upto_region 1 with fail
    clear hW0 hgr
    have b0 := HS.out.cell (k := 0) 0 rfl rfl
    have b1 := HS.out.cell (k := 1) 0 rfl rfl
    have z0 := HS.out.frz (k := 0) 0 rfl
    have z1 := HS.out.frz (k := 1) 0 rfl
    have HSF := Lib.hid ((HS.out.setBlk (k := 0) 0 rfl (.slice none 0 0)).setBlk (k := 1) 0 rfl (.int .i64 0))
    have u0 := HSF.out.cell (k := 0) 0 rfl rfl
    have u1 := HSF.out.cell (k := 1) 0 rfl rfl
    go_wp2
    exact bodyPost_ret (v := .tuple #[.agg #[.slice none 0 0, .int .i64 0], .bool false]) (by simp [results, Try.results13, go_sem, u0, u1]) rfl ⟨_, [], rfl, zHead_own, List.nodup_nil, (fun b hb => by cases hb), HSF.out.bel0⟩
  have HF : Hid (Pl.playPlain l = (Pl.foldS ⟨[], 0⟩ (Pl.toldS l), true)) := Lib.hid (if_pos (by have := HLN.out; omega))
  have f1 : ¬ (60 : Int) < (n : Nat) := by omega
  obtain ⟨iP, qP, qP0, qP1, qP2⟩ := info_parts Try.infoSayK
  rw [HF.out]
  go_enter Try.func13, Try.ntmps13
  go_upto_region 1 with fail
  clear hW0 hgr
  have KS := Lib.hid (HS.out.add (Below.refl _ _) (t := Mm.tsl rSay 61 [] (.slice none 0 0) []) Mm.SlOwn.nil List.nodup_nil (fun b hb => by cases hb))
  go_wp2
  clear HS
  go_loopg [4, 16] n (fun gg s4 i wr => ∃ (k m : Nat) (A' : Option Addr) (c' : Nat) (fq : List Nat), n - k ≤ gg ∧ k ≤ n ∧ s4 = .slice A' m c' ∧ i = .int .i64 k ∧ Hid ((Pl.toldS (l.take k)).length = m) ∧ Hid (Mm.SepF [] w wr [Mm.tsl rSay 61 (Pl.toldS (l.take k)) (.slice A' m c') fq, Mm.tblk gr 35 [.slice none 0 0, .int .i64 0]]))
  case atStart => exact ⟨0, 0, none, 0, [], Nat.le_refl _, Nat.zero_le _, rfl, rfl, rfl, KS.out⟩
  case round =>
    clear KS
    obtain ⟨k, m, A', c', fq, hgk, hk', rfl, rfl, HM, HS⟩ := hrel
    obtain ⟨W, rfl⟩ : ∃ W : World, W = wr := ⟨_, rfl⟩
    have hm60 : m ≤ 60 := by have h9 := Pl.toldS_len (l.take k); rw [List.length_take] at h9; have := HM.out; omega
    by_cases hlt : k < n
    · as_aux_lemma =>
      have fc : (k : Int) < (n : Nat) := by omega
      obtain ⟨s, b, off, hs, rfl, hb, ik, ip, hnm2, ia, iv, e0, e1, e2, e3, e4⟩ := rHouseStep_get (HL.out.keep (w' := W) fun b hb => HS.out.bel0.block b (by have := HBW.out; omega)) hlt
      have HNX := Lib.hid (Pl.toldS_next hs)
      have HIX := Lib.hid (And.intro hnm2 (And.intro ia iv))
      clear hs ik ip hnm2 ia iv
      go_upto_region 7 with fail
      obtain ⟨gn, hgn⟩ : ∃ g, W.heap.size = g := ⟨_, rfl⟩
      obtain ⟨W1, hW1⟩ : ∃ V, W.alloc (.cells #[.int .i64 s.Kind, .int .i64 s.Part, .string s.What.Name, .int .i64 s.What.At, .int .i64 s.What.Value] 63) = V := ⟨_, rfl⟩
      have HS1 := Lib.hid ((HS.out.alloc' hgn 63 [.int .i64 s.Kind, .int .i64 s.Part, .string s.What.Name, .int .i64 s.What.At, .int .i64 s.What.Value]).atW hW1)
      rw [hW1, hgn]
      clear hW1 e0 e1 e2 e3 e4 HS hgn
      have q0 := HS1.out.cell (k := 0) 0 rfl rfl
      have q2 := HS1.out.cell (k := 2) 0 rfl rfl
      have q3 := HS1.out.cell (k := 3) 0 rfl rfl
      have q4 := HS1.out.cell (k := 4) 0 rfl rfl
      by_cases hk1 : s.Kind = 1
      · have g1 : (s.Kind == 1) = true := by simp [hk1]
        have CI := isSay_c s.What W1 HIX.out.1
        cases hso : Pl.sayOk s.What with
        | true =>
          have HNY : Hid (Pl.toldS (l.take (k + 1)) = Pl.toldS (l.take k) ++ [s.What]) := Lib.hid (by rw [HNX.out]; exact if_pos (by unfold Pl.tells; rw [hso, decide_eq_true hk1]; rfl))
          rw [hso] at CI
          clear hk1 hso
          go_upto_region 8 with (go_at_call 34; (with_reducible refine CI.mono ?_); clear CI; rintro e w2 ⟨rfl, hb2⟩; (have HS2 := Lib.hid (HS1.out.step hb2)); clear hb2 q0 q2 q3 q4; (have q2 := HS2.out.cell (k := 2) 0 rfl rfl); (have q3 := HS2.out.cell (k := 3) 0 rfl rfl); (have q4 := HS2.out.cell (k := 4) 0 rfl rfl))
          go_wp2_with (at_builtin; refine Mm.app_list (x := s.What) HS2.out 1 rfl rfl (.tmp 28) (.tmp 31) 60 rfl iP _ 32 Try.underlying60 qP qP0 qP1 qP2 rfl (by decide) rfl rfl (fun W => (rSay_own_mk (x := s.What) HIX.out)) HM.out (by unfold maxLen; omega) (by omega) ?_; intro g cap w' fp' hs; (have HS4 := Lib.hid hs); clear hs)
          go_roundg (n - (k + 1))
          case measure => omega
          case rel => exact ⟨k + 1, m + 1, _, cap, fp', Nat.le_refl _, by omega, rfl, by go_num, by show _ = _; rw [HNY.out, List.length_append, HM.out]; rfl, by rw [HNY.out]; exact HS4.out.sel [1, 2] (by decide) rfl⟩
        | false =>
          have HNY : Hid (Pl.toldS (l.take (k + 1)) = Pl.toldS (l.take k)) := Lib.hid (by rw [HNX.out]; exact if_neg (by unfold Pl.tells; rw [hso]; simp))
          rw [hso] at CI
          clear hk1 hso
          go_wp2_with (go_at_call 34; (with_reducible refine CI.mono ?_); clear CI; rintro e w2 ⟨rfl, hb2⟩; (have HS2 := Lib.hid (HS1.out.step hb2)); clear hb2)
          go_roundg (n - (k + 1))
          case measure => omega
          case rel => exact ⟨k + 1, m, A', c', fq, Nat.le_refl _, by omega, rfl, by go_num, by show _ = _; rw [HNY.out]; exact HM.out, by rw [HNY.out]; exact HS2.out.sel [1, 2] (by decide) rfl⟩
      · have g1 : (s.Kind == 1) = false := by simp [hk1]
        have HNY : Hid (Pl.toldS (l.take (k + 1)) = Pl.toldS (l.take k)) := Lib.hid (by rw [HNX.out]; exact if_neg (by unfold Pl.tells; rw [decide_eq_false hk1]; simp))
        clear hk1
        go_wp2
        go_roundg (n - (k + 1))
        case measure => omega
        case rel => exact ⟨k + 1, m, A', c', fq, Nat.le_refl _, by omega, rfl, by go_num, by show _ = _; rw [HNY.out]; exact HM.out, by rw [HNY.out]; exact HS1.out.sel [1, 2] (by decide) rfl⟩
    · obtain rfl : k = n := by omega
      have HE : Hid (l.take k = l) := Lib.hid (List.take_of_length_le (by have := HLN.out; omega))
      rw [HE.out] at HS HM
      have fc : ¬ ((k : Nat) : Int) < (k : Nat) := by omega
      have hsz := HS.out.bel0.size
      have CF := foldSays_c ⟨[], 0⟩ [.slice none 0 0, .int .i64 0] (Pl.toldS l) A' m c' W W.heap.size zHead_at ((HS.out.sl 0 rfl).weak (HS.out.sl 0 rfl).olt) (Nat.le_refl _) Pl.HW.zero (fun x hx => Pl.toldS_ok hx) ⟨Int.le_refl _, by show (0 : Int) + m ≤ 1000; omega⟩
      unfold FoldAns at CF
      obtain ⟨of, hof⟩ : ∃ of, (Pl.foldS ⟨[], 0⟩ (Pl.toldS l)).Offset = of := ⟨_, rfl⟩
      have HOF := Lib.hid hof
      clear hof
      go_upto_region 11 with (go_at_call 35; (with_reducible refine CF.mono ?_); clear CF; rintro e w2 ⟨cs, fp, A2, n2, c2, fq2, rfl, hS⟩; obtain ⟨A5, n5, c5, -, rfl, -⟩ := rHead_own (show rHead.own w2 _ cs fp from hS.at_ 0 rfl); (have HS2 := Lib.hid (HS.out.add hS.bel0 (t := Mm.tow rHead (Pl.foldS ⟨[], 0⟩ (Pl.toldS l)) _ fp) (hS.at_ 0 rfl) (hS.ndat (i := 0) rfl) (fun b hb => (hS.new b (Mm.SepF.mem (i := 0) rfl hb)).resolve_left (fun h => by cases h)))); clear hS)
      rw [HOF.out] at HS2 ⊢
      obtain ⟨gx, hgx⟩ : ∃ g, w2.heap.size = g := ⟨_, rfl⟩
      obtain ⟨W3, hW3⟩ : ∃ V, w2.alloc (.cells #[.slice A5 n5 c5, .int .i64 of] 35) = V := ⟨_, rfl⟩
      have HS3 := Lib.hid ((HS2.out.alloc' hgx 35 [.slice A5 n5 c5, .int .i64 of]).atW hW3)
      rw [hW3, hgx]
      clear hW3 hgx HS HS2
      have q0 := HS3.out.cell (k := 0) 0 rfl rfl
      have q1 := HS3.out.cell (k := 1) 0 rfl rfl
      have b0 := HS3.out.cell (k := 0) 3 rfl rfl
      have b1 := HS3.out.cell (k := 1) 3 rfl rfl
      have z0 := HS3.out.frz (k := 0) 3 rfl
      have z1 := HS3.out.frz (k := 1) 3 rfl
      have HSF := Lib.hid ((HS3.out.setBlk (k := 0) 3 rfl (.slice A5 n5 c5)).setBlk (k := 1) 3 rfl (.int .i64 of))
      have u0 := HSF.out.cell (k := 0) 3 rfl rfl
      have u1 := HSF.out.cell (k := 1) 3 rfl rfl
      go_wp2
      exact bodyPost_ret (v := .tuple #[.agg #[.slice A5 n5 c5, .int .i64 of], .bool true]) (by simp [results, Try.results13, go_sem, u0, u1]) rfl ⟨_, fp, rfl, HSF.out.at_ 1 rfl, HSF.out.ndat (i := 1) rfl, (fun b hb => (HSF.out.new b (Mm.SepF.mem (i := 1) rfl hb)).resolve_left (fun h => by cases h)), HSF.out.bel0⟩
end Go.Proofs.Ytkodfflnpalbbaa

/-
  Rows of elements that lead on: what a slice that is read has in its cells; a row made of such cells reads as the same elements; append of such a row. No program in sight. No conditions.
-/
namespace Go.Proofs.Ytkodfflnpalbbaa
open Go.RowKit
namespace Mm
/-- the cells of elements that are read -/
structure Css {α : Type} (E : Rep α) (w : World) (B : Nat) (xs : List α) (css : List (List Value)) : Prop where
  len : css.length = xs.length
  at_ : ∀ (i : Nat) (x : α) (y : List Value), xs[i]? = some x → css[i]? = some y → E.at_ w B x y
section
variable {α : Type} {E : Rep α} {e : TypeId} {w w' : World} {B B' : Nat} {xs ys : List α} {A : Option Addr} {n c : Nat} {css dss : List (List Value)}
theorem Css.size (h : Css E w B xs css) : ∀ y ∈ css, y.length = E.size := fun y hy => by
  obtain ⟨i, hi, rfl⟩ := List.mem_iff_getElem.1 hy
  have hx := List.getElem?_eq_getElem (show i < xs.length by rw [← h.len]; exact hi)
  exact E.len (h.at_ i _ _ hx (List.getElem?_eq_getElem hi))
theorem Css.keep (h : Css E w B xs css) (k : ∀ b, b < B → w'.heap[b]? = w.heap[b]?) : Css E w' B xs css := ⟨h.len, fun i x y hx hy => E.keep (h.at_ i x y hx hy) k⟩
theorem Css.more (h : Css E w B xs css) (k : B ≤ B') : Css E w B' xs css := ⟨h.len, fun i x y hx hy => E.more (h.at_ i x y hx hy) k⟩
theorem Css.app (h : Css E w B xs css) (k : Css E w B ys dss) : Css E w B (xs ++ ys) (css ++ dss) := ⟨by rw [List.length_append, List.length_append, h.len, k.len], fun i x y hx hy => by
  by_cases hi : i < xs.length
  · rw [List.getElem?_append_left hi] at hx
    rw [List.getElem?_append_left (by rw [h.len]; exact hi)] at hy
    exact h.at_ i x y hx hy
  · rw [List.getElem?_append_right (by omega)] at hx
    rw [List.getElem?_append_right (by rw [h.len]; omega), h.len] at hy
    exact k.at_ _ x y hx hy⟩
theorem Css.flat_len (h : Css E w B xs css) : (css.flatMap id).length = xs.length * E.size := by
  have hs := h.size
  rw [← h.len]
  clear h
  induction css with
  | nil => simp
  | cons z t ih => rw [List.flatMap_cons, List.length_append, ih (fun y hy => hs y (by simp [hy])), id, hs z (by simp), List.length_cons, Nat.add_mul]; omega
theorem SlAt.cellsOf (h : SlAt E w B xs A n c) : ∃ css, Css E w B xs css ∧ ∀ a, A = some a → ∀ j u, (css.flatMap id)[j]? = some u → w.cell? (a.add j) = some u := by
  have step : ∀ k, k ≤ n → ∃ css : List (List Value), css.length = k ∧ ∀ i x y, xs[i]? = some x → css[i]? = some y → E.at_ w B x y ∧ ∃ b off, A = some ⟨b, off, none⟩ ∧ ∀ j u, y[j]? = some u → w.cell? ⟨b, off + i * E.size + j, none⟩ = some u := by
    intro k
    induction k with
    | zero => intro _; exact ⟨[], rfl, fun i x y _ hy => by simp at hy⟩
    | succ k ih =>
      intro hk
      obtain ⟨css, h1, h2⟩ := ih (by omega)
      obtain ⟨x0, b, off, cs, hx0, hA, hb, ha, hc⟩ := h.get (k := k) (by omega)
      refine ⟨css ++ [cs], by rw [List.length_append, h1]; rfl, fun i x y hx hy => ?_⟩
      by_cases hi : i < k
      · rw [List.getElem?_append_left (by omega)] at hy
        exact h2 i x y hx hy
      · rw [List.getElem?_append_right (by omega), h1] at hy
        obtain rfl : i = k := by
          have := (List.getElem?_eq_some_iff.1 hy).1
          simp at this; omega
        simp at hy
        subst hy
        rw [hx0] at hx
        injection hx with hx
        subst hx
        exact ⟨ha, b, off, hA, hc⟩
  obtain ⟨css, h1, h2⟩ := step n (Nat.le_refl _)
  have hC : Css E w B xs css := ⟨by rw [h1, h.1], fun i x y hx hy => (h2 i x y hx hy).1⟩
  refine ⟨css, hC, fun a hA j u hu => ?_⟩
  obtain ⟨i, r, y, rfl, h3, h4⟩ := flatMap_inv id E.size css hC.size j u hu
  have hx := List.getElem?_eq_getElem (show i < xs.length by rw [← hC.len]; exact (List.getElem?_eq_some_iff.1 h3).1)
  obtain ⟨_, b, off, hA', hc⟩ := h2 i _ y hx h3
  rw [hA] at hA'
  injection hA' with hA'
  subst hA'
  rw [Addr.add_lit, ← Nat.add_assoc]
  exact hc r u h4
/-- a row of such cells reads as the elements -/
theorem SlAt.of_css (hC : Css E w B xs css) {v : Value} (ho : w.ownsRow 0 e E.size v n (css.flatMap id)) (hn : xs.length = n) (hB : w.heap.size ≤ B) : ∃ A' c', v = .slice A' n c' ∧ SlAt E w B xs A' n c' := by
  rcases ho.2 with ⟨rfl, h0⟩ | ⟨g, cap, cur, rfl, _, hg, hnc, hcm, hcs, htake⟩
  · subst h0
    exact ⟨none, 0, rfl, hn, Nat.le_refl _, Nat.zero_le _, fun _ => rfl, fun i x hx => by
      have := (List.getElem?_eq_some_iff.1 hx).1; omega⟩
  · refine ⟨_, cap, rfl, hn, hnc, hcm, (fun h => by cases h), fun i x hx => ?_⟩
    have hi := (List.getElem?_eq_some_iff.1 hx).1
    have hy := List.getElem?_eq_getElem (show i < css.length by rw [hC.len]; exact hi)
    refine ⟨g, 0, css[i]'(by rw [hC.len]; exact hi), rfl, ?_, hC.at_ i x _ hx hy, fun j u hu => ?_⟩
    · have := (ho.lt g (by simp [Value.ownBlock])).2; omega
    · have hc := ho.cells (g := g) rfl (i * E.size + j) u (flatMap_get id _ css hC.size i _ j u hy hu)
      rw [add0] at hc
      simpa using hc
end
section
variable {P : Program} {w : World} {e : TypeId} {v : Value} {xs news : List Value} {n m c : Nat} {A : Option Addr}
/-- append of a whole row, the empty one too -/
theorem run_append_row (t ty : TypeId) (i : TypeInfo) (z : Value) (size bytes : Nat) (ht : P.underlying t = some (.slice e)) (hi : P.info? e = some i) (hz : i.zero = some z) (hsize : i.size = size) (hby : i.bytes = bytes) (hzs : z.cells.size = size) (hsz : 0 < size)
    (hown : w.ownsRow 0 e size v n xs) (hA : A = none → m = 0 ∧ c = 0) (hl : news.length = m * size) (hnews : ∀ a, A = some a → ∀ j u, news[j]? = some u → w.cell? (a.add j) = some u) (h1 : ∀ u ∈ news, u.oneCell' = true) (h63 : n + m ≤ maxLen) (hbytes : (n + m) * bytes ≤ 140737488355328) :
    ∃ v' w', (Builtin.append_ #[t, t] ty #[v, .slice A m c]).run P w = .ok v' w' ∧ w'.ownsRow 0 e size v' (n + m) (xs ++ news) ∧ w.grownBy w' v.ownBlock ∧ (v'.ownBlock = v.ownBlock ∨ v'.ownBlock = some w.heap.size) := by
  cases A with
  | none =>
    obtain ⟨rfl, rfl⟩ := hA rfl
    have hn0 : news = [] := List.length_eq_zero_iff.1 (by omega)
    subst hn0
    refine ⟨v, w, run_append_owned_none (P := P) w 0 t ty e i size ht hi v n xs hown, ?_, ⟨rfl, rfl, rfl, Nat.le_refl _, fun _ _ _ => rfl⟩, .inl rfl⟩
    rw [List.append_nil]
    exact hown
  | some a =>
    obtain ⟨v', w', hr, h2, h3, _, h5⟩ := run_append_own_at (P := P) w 0 t ty e i z size bytes ht hi hz hsize hby hzs hsz v n xs hown a m c news hl (hnews a rfl) h1 h63 hbytes (Nat.zero_le _)
    exact ⟨v', w', hr, h2, h3, h5⟩
end
end Mm
end Go.Proofs.Ytkodfflnpalbbaa

/-
  Memory: an element put among others by three appends, the element laid between them. No conditions beyond those named.
-/
namespace Go.Proofs.Ytkodfflnpalbbaa
open Go.RowKit
namespace Mm
section
variable {α : Type} {E : Rep α} {e : TypeId} {w : World} {xs : List α} {v : Value} {fp : List Nat}
/-- the element laid later than the slice, the new slice later than both or between them -/
theorem SlOwn.insLate (h : SlOwn E e w xs v fp) {k : Nat} (hk : k ≤ xs.length) (hnd : fp.Nodup) :
    ∃ l, w.ownsRow 0 e E.size v xs.length l ∧ (∀ u ∈ l, u.oneCell' = true) ∧ ∀ w' v' x cx fx, Below w.heap.size w w' → E.own w' x cx fx → fx.Nodup → (∀ b, b ∈ fx → w.heap.size ≤ b) → w'.ownsRow 0 e E.size v' (xs.length + 1) (l.take (k * E.size) ++ cx ++ l.drop (k * E.size)) → (∀ g, v'.ownBlock = some g → w.heap.size ≤ g ∧ g ∉ fx) →
      ∃ fp', SlOwn E e w' (insertAt xs k x) v' fp' ∧ fp'.Nodup ∧ ∀ b, b ∈ fp' → b ∈ fp ∨ w.heap.size ≤ b := by
  have hlt := h.olt
  obtain ⟨es, he, ho, rfl⟩ := h
  refine ⟨_, ho, fun u hu => ?_, fun w' v' x cx fx hb hx hxd hxf ho' hat => ?_⟩
  · obtain ⟨y, hy, hu⟩ := List.mem_flatMap.1 hu
    obtain ⟨z, _, hz⟩ := he.mem hy
    exact E.one hz u hu
  have hkeep : ∀ b, b ∈ es.flatMap (·.2) → w'.heap[b]? = w.heap[b]? := fun b hb' => hb.block b (hlt b (List.mem_append_right _ hb'))
  have hke : k ≤ es.length := by rw [he.1]; exact hk
  have hp : ((insertAt es k (cx, fx)).flatMap (·.2)).Perm (fx ++ es.flatMap (·.2)) := by
    have := (insertAt_perm es k (cx, fx)).flatMap_right (fun y => y.2)
    rwa [List.flatMap_cons] at this
  refine ⟨_, ⟨insertAt es k (cx, fx), ⟨by rw [insertAt_len, insertAt_len, he.1], fun i y z hy hz => ?_⟩, ?_, rfl⟩, ?_, ?_⟩
  · rcases insertAt_get hk hy with ⟨h1, h2⟩ | ⟨h1, h2⟩ | ⟨h1, h2⟩
    · rcases insertAt_get hke hz with ⟨g1, g2⟩ | ⟨g1, g2⟩ | ⟨g1, g2⟩
      · exact E.okeep (he.2 i y z h2 g2) fun b hb => hkeep b (List.mem_flatMap.2 ⟨z, List.mem_of_getElem? g2, hb⟩)
      · omega
      · omega
    · rcases insertAt_get hke hz with ⟨g1, g2⟩ | ⟨g1, g2⟩ | ⟨g1, g2⟩
      · omega
      · subst h2; subst g2
        exact hx
      · omega
    · rcases insertAt_get hke hz with ⟨g1, g2⟩ | ⟨g1, g2⟩ | ⟨g1, g2⟩
      · omega
      · omega
      · exact E.okeep (he.2 _ y z h2 g2) fun b hb => hkeep b (List.mem_flatMap.2 ⟨z, List.mem_of_getElem? g2, hb⟩)
  · rw [insertAt_len, insertAt_flat (·.1) E.size es k (cx, fx) he.len]
    exact ho'
  · have h1 : v'.ownBlock.toList.Nodup := by cases v'.ownBlock <;> simp
    rw [List.nodup_append] at hnd ⊢
    refine ⟨h1, ?_, fun a ha b hb hab => ?_⟩
    · rw [hp.nodup_iff, List.nodup_append]
      exact ⟨hxd, hnd.2.1, fun a ha b hb hab => by
        subst hab
        have := hxf a ha
        have := hlt a (List.mem_append_right _ hb)
        omega⟩
    · subst hab
      have h2 := hat a (by simpa using ha)
      rcases List.mem_append.1 (hp.mem_iff.1 hb) with hb | hb
      · exact h2.2 hb
      · have := hlt a (List.mem_append_right _ hb); omega
  · intro b hb
    rcases List.mem_append.1 hb with hb | hb
    · exact .inr (hat b (by simpa using hb)).1
    · rcases List.mem_append.1 (hp.mem_iff.1 hb) with hb | hb
      · exact .inr (hxf b hb)
      · exact .inl (List.mem_append_right _ hb)
theorem SepF.insLate {F : List Nat} {w0 wr : World} {ts : List Thing} (h : SepF F w0 wr ts) (i : Nat) {k : Nat} (hi : ts[i]? = some (tsl E e xs v fp)) (hk : k ≤ xs.length) :
    ∃ l, wr.ownsRow 0 e E.size v xs.length l ∧ (∀ u ∈ l, u.oneCell' = true) ∧ ∀ w' v' x cx fx, Below wr.heap.size wr w' → E.own w' x cx fx → fx.Nodup → (∀ b, b ∈ fx → wr.heap.size ≤ b) → w'.ownsRow 0 e E.size v' (xs.length + 1) (l.take (k * E.size) ++ cx ++ l.drop (k * E.size)) → (∀ g, v'.ownBlock = some g → wr.heap.size ≤ g ∧ g ∉ fx) →
      ∃ fp', SepF F w0 w' (ts.set i (tsl E e (insertAt xs k x) v' fp')) := by
  obtain ⟨l, k1, k2, k3⟩ := (h.sl i hi).insLate hk (h.ndat hi)
  refine ⟨l, k1, k2, fun w' v' x cx fx hb hx hxd hxf ho' hat => ?_⟩
  obtain ⟨fp', m1, m2, m3⟩ := k3 w' v' x cx fx hb hx hxd hxf ho' hat
  exact ⟨fp', h.upd hi (Chg.of_below hb) m1 m2 m3⟩
end
theorem rowKeepK {w w' : World} {base S : Nat} {e : TypeId} {v : Value} {n : Nat} {xs : List Value} (h : w.ownsRow base e S v n xs) (hk : ∀ g, v.ownBlock = some g → w'.heap[g]? = w.heap[g]?) : w'.ownsRow base e S v n xs := by
  refine ⟨h.1, h.2.imp id ?_⟩
  rintro ⟨g, cap, cur, rfl, h1, h2, h3⟩
  exact ⟨g, cap, cur, rfl, h1, (hk g rfl).trans h2, h3⟩
theorem rowFormK {w : World} {S : Nat} {e : TypeId} {v : Value} {n : Nat} {xs : List Value} (h : w.ownsRow 0 e S v n xs) : ∃ A c, v = .slice A n c := by
  rcases h.2 with ⟨h1, h2⟩ | ⟨g', cap, cur, h1, _⟩
  · exact ⟨none, 0, by rw [h1, h2]⟩
  · exact ⟨_, cap, h1⟩
end Mm
set_option maxRecDepth 100000 in
theorem put3R (W : World) (A1 A3 : Option Addr) (n p m3 c1 c3 : Nat) (lc : List Value) (ho : W.ownsRow 0 83 2 (.slice A1 n c1) n lc) (h1c : ∀ u ∈ lc, u.oneCell' = true) (hp : p ≤ n) (hn : n ≤ 100) (hA1 : A1 = none → p = 0 ∧ c1 = 0) (hm : m3 = n - p) (hA3 : A3 = none → m3 = 0 ∧ c3 = 0) (hs1 : ∀ a, A1 = some a → ∀ j u, (lc.take (p * 2))[j]? = some u → W.cell? (a.add j) = some u) (hs3 : ∀ a, A3 = some a → ∀ j u, (lc.drop (p * 2))[j]? = some u → W.cell? (a.add j) = some u) :
    ∃ A8 c8 w8, (∀ ty, (Builtin.append_ #[33, 33] ty #[.slice (some ⟨W.heap.size, 0, none⟩) 0 0, .slice A1 p c1]).run Try.prog (W.alloc (.cells #[] 83)) = .ok (.slice A8 p c8) w8) ∧ Below W.heap.size W w8 ∧ (∀ g, (Value.slice A8 p c8).ownBlock = some g → W.heap.size ≤ g ∧ g < w8.heap.size) ∧
    ∀ V (ct : List Value), Below w8.heap.size w8 V → ct.length = 2 → (∀ u ∈ ct, u.oneCell' = true) →
    ∃ A10 c10 w10, (∀ ty, (Builtin.append_ #[33, 33] ty #[.slice A8 p c8, .slice (some ⟨V.heap.size, 0, none⟩) 1 1]).run Try.prog (V.alloc (.cells ct.toArray 83)) = .ok (.slice A10 (p + 1) c10) w10) ∧
    (∀ k, k < V.heap.size → (Value.slice A8 p c8).ownBlock ≠ some k → w10.heap[k]? = V.heap[k]?) ∧
    ∃ A11 c11 w11, (∀ ty, (Builtin.append_ #[33, 33] ty #[.slice A10 (p + 1) c10, .slice A3 m3 c3]).run Try.prog w10 = .ok (.slice A11 (n + 1) c11) w11) ∧
      w11.ownsRow 0 83 2 (.slice A11 (n + 1) c11) (n + 1) (lc.take (p * 2) ++ ct ++ lc.drop (p * 2)) ∧ Below W.heap.size W w11 ∧ (∀ k, k < V.heap.size → (Value.slice A8 p c8).ownBlock ≠ some k → w11.heap[k]? = V.heap[k]?) ∧ (∀ g, (Value.slice A11 (n + 1) c11).ownBlock = some g → (Value.slice A8 p c8).ownBlock = some g ∨ V.heap.size ≤ g) := by
  obtain ⟨i0, hi, hz0, hzs, hzb⟩ := info_parts Try.infoRowI
  have hcl := ho.1
  have hU := Try.underlying33
  have k0 : Below W.heap.size W (W.alloc (.cells #[] 83)) := below_new (Below.refl _ _) _
  have hblk : ∀ {V : World}, Below W.heap.size W V → ∀ (a : Addr) j u, W.cell? (a.add j) = some u → V.cell? (a.add j) = some u := fun hb a j u h => below_some hb h
  have r0 : (W.alloc (.cells #[] 83)).ownsRow 0 83 2 (.slice (some ⟨W.heap.size, 0, none⟩) 0 0) 0 [] := ⟨rfl, .inr ⟨W.heap.size, 0, #[], rfl, Nat.zero_le _, heap_alloc_new W _, Nat.le_refl _, Nat.zero_le _, rfl, rfl⟩⟩
  have ap : ∀ {V : World} {v : Value} {nn : Nat} {xs news : List Value} {A : Option Addr} {mm cc : Nat}, V.ownsRow 0 83 2 v nn xs → (A = none → mm = 0 ∧ cc = 0) → news.length = mm * 2 → (∀ a, A = some a → ∀ j u, news[j]? = some u → V.cell? (a.add j) = some u) → (∀ u ∈ news, u.oneCell' = true) → nn + mm ≤ 1000 →
      ∃ v' w', (∀ ty, (Builtin.append_ #[33, 33] ty #[v, .slice A mm cc]).run Try.prog V = .ok v' w') ∧ w'.ownsRow 0 83 2 v' (nn + mm) (xs ++ news) ∧ V.grownBy w' v.ownBlock ∧ (v'.ownBlock = v.ownBlock ∨ v'.ownBlock = some V.heap.size) := by
    intro V v nn xs news A mm cc q1 q2 q3 q4 q5 q6
    obtain ⟨v', w', hr, h2, h3, h4⟩ := Mm.run_append_row (P := Try.prog) (w := V) 33 0 i0 _ 2 40 hU hi hz0 hzs hzb rfl (by omega) q1 q2 q3 q4 q5 (by unfold maxLen; omega) (by omega)
    exact ⟨v', w', fun ty => hr, h2, h3, h4⟩
  obtain ⟨v8, w8, e1, r1, g1, o1⟩ := ap r0 hA1 (by rw [List.length_take, hcl]; omega) (fun a ha j u hj => hblk k0 a j u (hs1 a ha j u hj)) (fun u hu => h1c u (List.mem_of_mem_take hu)) (by omega)
  rw [Nat.zero_add, List.nil_append] at r1
  obtain ⟨A8, c8, rfl⟩ := Mm.rowFormK r1
  have k1 : Below W.heap.size W w8 := k0.grown g1 k0.size (fun k hk => by simp [Value.ownBlock] at hk; omega)
  have n1 : ∀ g, (Value.slice A8 p c8).ownBlock = some g → W.heap.size ≤ g ∧ g < w8.heap.size := fun g hg => ⟨by
    rcases o1 with h | h
    · rw [hg] at h; simp [Value.ownBlock] at h; omega
    · rw [hg] at h; injection h with h; have := k0.size; omega, (r1.lt g hg).2⟩
  refine ⟨A8, c8, w8, e1, k1, n1, fun V ct hV hct h1 => ?_⟩
  have kV : Below W.heap.size W V := below_step k1 hV
  have k2 : Below W.heap.size W (V.alloc (.cells ct.toArray 83)) := below_new kV _
  have hsz : w8.heap.size ≤ V.heap.size := hV.size
  have r2 : (V.alloc (.cells ct.toArray 83)).ownsRow 0 83 2 (.slice A8 p c8) p (lc.take (p * 2)) := Mm.rowKeepK r1 (fun g hg => (heap_alloc_old V _ (Nat.lt_of_lt_of_le (n1 g hg).2 hsz)).trans (hV.block g (n1 g hg).2))
  have nb := Mm.Blk.new V 83 ct
  obtain ⟨v10, w10, e2, r3, g2, o2⟩ := ap (A := some ⟨V.heap.size, 0, none⟩) (mm := 1) (cc := 1) (news := ct) r2 (fun h => by cases h) (by omega) (fun a ha j u hj => by injection ha with ha; subst ha; rw [Mm.add0]; exact nb.cell hj) h1 (by omega)
  obtain ⟨A10, c10, rfl⟩ := Mm.rowFormK r3
  have k3 : Below W.heap.size W w10 := k2.grown g2 k2.size (fun k hk => (n1 k hk).1)
  have hs2 : (V.alloc (.cells ct.toArray 83)).heap.size = V.heap.size + 1 := Mm.sz1 _ _
  have hK1 : ∀ k, k < V.heap.size → (Value.slice A8 p c8).ownBlock ≠ some k → w10.heap[k]? = V.heap[k]? := fun k hk hn => (g2.block k (by omega) (fun hh => hn hh.symm)).trans (heap_alloc_old V _ hk)
  have n2 : ∀ g, (Value.slice A10 (p + 1) c10).ownBlock = some g → (Value.slice A8 p c8).ownBlock = some g ∨ V.heap.size ≤ g := fun g hg => by
    rcases o2 with h | h
    · rw [hg] at h; exact .inl h.symm
    · rw [hg] at h; injection h with h; exact .inr (by omega)
  have n2' : ∀ g, (Value.slice A10 (p + 1) c10).ownBlock = some g → W.heap.size ≤ g := fun g hg => by
    rcases n2 g hg with h | h
    · exact (n1 g h).1
    · have := kV.size; omega
  refine ⟨A10, c10, w10, e2, hK1, ?_⟩
  obtain ⟨v11, w11, e3, r4, g3, o3⟩ := ap r3 hA3 (by rw [List.length_drop, hcl, hm]; omega) (fun a ha j u hj => hblk k3 a j u (hs3 a ha j u hj)) (fun u hu => h1c u (List.mem_of_mem_drop hu)) (by omega)
  rw [show p + 1 + m3 = n + 1 by omega] at r4
  obtain ⟨A11, c11, rfl⟩ := Mm.rowFormK r4
  have hs10 : V.heap.size < w10.heap.size := by have := g2.size; omega
  refine ⟨A11, c11, w11, e3, r4, k3.grown g3 k3.size (fun k hk => n2' k hk), fun k hk hn => ?_, fun g hg => ?_⟩
  · refine (g3.block k (by omega) (fun hh => ?_)).trans (hK1 k hk hn)
    rcases n2 k hh.symm with h | h
    · exact hn h
    · omega
  · rcases o3 with h | h
    · rw [hg] at h; exact n2 g h.symm
    · rw [hg] at h; injection h with h; exact .inr (by omega)
end Go.Proofs.Ytkodfflnpalbbaa
