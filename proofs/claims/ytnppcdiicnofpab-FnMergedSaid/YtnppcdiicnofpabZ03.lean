/-
  Joined texts, in build order: Op, Qt, Wq, Wr, Wx, Ix, Bx, Wc, Er, Sc. Each part says what it proves; no conditions beyond those that a part names.
-/
import Derived.Test.YtnppcdiicnofpabZ01
import Derived.Test.YtnppcdiicnofpabZ02
import Derived.ProofKit
import Derived.OpenShut
import Derived.Deep.Slices
import Derived.StillTail
import Derived.Lib.Hide
import Derived.Deep.DeepCutAuto
import Derived.Deep.LoopGhost
import Derived.WalkSpells
import Derived.Deep.RegionLaw
/-
  From the form's own reading of an argument to the readings of Mm: for numbers, strings, structs and slices of whatever depth. No program in sight. No conditions.
-/
namespace Go.Proofs.Ytnppcdiicnofpab
open Go.ChangeShapes Go.WideShapes Go.RowKit Go.Deep
namespace Mm

def Opens {α : Type} (P : Program) (t : TypeId) (E : Rep α) : Prop :=
  P.cellsOf t = E.size ∧ ∀ (H : Type) (enc : TypeId × Value → H) (w : World) (base : Nat) (spare : Nat → Bool) (held : Bool) (fuel : Nat) (cs : List Value) (x : DataW H × List MemPlace),
    DataW.trod enc P w base spare held fuel t cs = some x → ∃ y, E.at_ w w.heap.size y cs

variable {P : Program} {t e : TypeId}

theorem opens_int (ht : P.underlying t = some (.int .i64)) (hc : P.cellsOf t = 1) : Opens P t int := ⟨hc, fun H enc w base spare held fuel cs x h => by
  obtain ⟨n, rfl, _, hw⟩ := DataW.trod_int ht h
  refine ⟨n, rfl, ?_⟩
  simp [Lit.wf, IntKind.min, IntKind.max, IntKind.signed, IntKind.bits] at hw
  unfold I64
  omega⟩
theorem opens_bool (ht : P.underlying t = some .bool) (hc : P.cellsOf t = 1) : Opens P t bool := ⟨hc, fun H enc w base spare held fuel cs x h => by
  obtain ⟨n, rfl, _⟩ := DataW.trod_bool ht h
  exact ⟨n, rfl, trivial⟩⟩
theorem opens_str (ht : P.underlying t = some .string) (hc : P.cellsOf t = 1) : Opens P t str := ⟨hc, fun H enc w base spare held fuel cs x h => by
  obtain ⟨n, rfl, _, hw⟩ := DataW.trod_string ht h
  exact ⟨n, rfl, hw⟩⟩
theorem opens_map {α β : Type} {E : Rep α} {F : Rep β} (h : Opens P t E) (hs : E.size = F.size) (hc : ∀ w B x cs, E.at_ w B x cs → ∃ y, F.at_ w B y cs) : Opens P t F :=
  ⟨h.1.trans hs, fun H enc w base spare held fuel cs x hx => by
    obtain ⟨y, hy⟩ := h.2 H enc w base spare held fuel cs x hx
    exact hc _ _ _ _ hy⟩
theorem opens_slice {α : Type} {E : Rep α} (ht : P.underlying t = some (.slice e)) (hc : P.cellsOf t = 1) (h0 : 0 < E.size) (hE : Opens P e E) : Opens P t (slice E e) := ⟨hc, fun H enc w base spare held fuel cs x h => by
  rcases open_slice ht h with ⟨rfl, _⟩ | ⟨a, len, cap, m, n, D, Pl, rfl, hb, hl, hm, hmm, _, hi⟩
  · exact ⟨[], none, 0, 0, rfl, SlAt.nil (Nat.zero_le _) (fun _ => rfl)⟩
  · have hle : len ≤ m := by rw [hmm]; split <;> omega
    have hex : ∀ i : Fin len, ∃ y : α, ∃ cs', E.at_ w w.heap.size y cs' ∧ cs'.length = E.size ∧ ∀ j, j < E.size → w.cell? (a.add (i.1 * E.size + j)) = cs'[j]? := by
      intro i
      obtain ⟨cs', h1, h2⟩ := hi i.1 (by have := i.2; omega)
      obtain ⟨y, hy⟩ := hE.2 H enc w base spare held n cs' _ h2
      obtain ⟨_, hln, hcell⟩ := World.cells?_some h1
      rw [hE.1] at hln hcell
      exact ⟨y, cs', hy, hln, fun j hj => by rw [← Go.Deep.add_add]; exact hcell j hj⟩
    refine ⟨List.ofFn fun i : Fin len => Classical.choose (hex i), some a, len, cap, rfl, by simp, hl, hm, (fun h => by cases h), fun i y hy => ?_⟩
    have hil : i < len := by
      have := (List.getElem?_eq_some_iff.1 hy).1
      simpa using this
    obtain ⟨cs', h1, h2, h3⟩ := Classical.choose_spec (hex ⟨i, hil⟩)
    have hey : Classical.choose (hex ⟨i, hil⟩) = y := by
      rw [List.getElem?_ofFn] at hy
      simpa [hil] using hy
    rw [hey] at h1
    obtain ⟨cs0, _, h20, h30⟩ := Classical.choose_spec (hex ⟨0, by omega⟩)
    have hc0 := h30 0 h0
    rw [List.getElem?_eq_getElem (by omega)] at hc0
    obtain ⟨b, off, spot⟩ := a
    have hsp : spot = none := by
      have := World.cell?_spot hc0
      simpa [Addr.add] using this
    subst hsp
    have hadd : ∀ k : Nat, (⟨b, off, none⟩ : Addr).add k = ⟨b, off + k, none⟩ := fun k => by unfold Addr.add; split <;> simp_all
    refine ⟨b, off, cs', rfl, ?_, h1, fun j u hu => ?_⟩
    · have := World.block_lt_of_cell? w _ hc0
      rw [hadd] at this
      exact this
    · have hj : j < cs'.length := (List.getElem?_eq_some_iff.1 hu).1
      have := h3 j (by omega)
      rw [hu, hadd] at this
      rw [Nat.add_assoc]
      exact this⟩

def OpensF {α : Type} (P : Program) (l : List Field) (off : Nat) (E : Rep α) : Prop :=
  ∀ (H : Type) (enc : TypeId × Value → H) (w : World) (base : Nat) (spare : Nat → Bool) (held : Bool) (n : Nat) (cs : List Value), cs.length = off + E.size →
    (∀ (i : Nat) (f : Field), l[i]? = some f → ∃ x, DataW.trod enc P w base spare held n f.type ((cs.drop f.offset).take (P.cellsOf f.type)) = some x) → ∃ y, E.at_ w w.heap.size y (cs.drop off)
theorem opensF_one {α : Type} {E : Rep α} {f : Field} {off : Nat} (ho : f.offset = off) (h : Opens P f.type E) : OpensF P [f] off E := fun H enc w base spare held n cs hl hf => by
  obtain ⟨x, hx⟩ := hf 0 f rfl
  obtain ⟨y, hy⟩ := h.2 H enc w base spare held n _ x hx
  rw [ho, h.1, List.take_of_length_le (by rw [List.length_drop]; omega)] at hy
  exact ⟨y, hy⟩
theorem opensF_cons {α β : Type} {E : Rep α} {F : Rep β} {f : Field} {l : List Field} {off : Nat} (ho : f.offset = off) (h : Opens P f.type E) (hr : OpensF P l (off + E.size) F) : OpensF P (f :: l) off (pair E F) :=
  fun H enc w base spare held n cs hl hf => by
    obtain ⟨x, hx⟩ := hf 0 f rfl
    obtain ⟨y, hy⟩ := h.2 H enc w base spare held n _ x hx
    rw [ho, h.1] at hy
    have hl' : cs.length = off + E.size + F.size := by rw [hl]; show off + (E.size + F.size) = _; omega
    obtain ⟨z, hz⟩ := hr H enc w base spare held n cs hl' (fun i g hg => hf (i + 1) g (by simpa using hg))
    refine ⟨(y, z), _, _, ?_, hy, hz⟩
    rw [← List.drop_drop, List.take_append_drop]
theorem opens_struct {α : Type} {E : Rep α} {fs : Array Field} (ht : P.underlying t = some (.struct fs)) (hc : P.cellsOf t = E.size) (h : OpensF P fs.toList 0 E) : Opens P t E := ⟨hc, fun H enc w base spare held fuel cs x hx => by
  obtain ⟨ys, n, _, _, hlen, hyl, hf⟩ := DataW.trod_struct ht hx
  have := h H enc w base spare held n cs (by rw [hlen, hc]; omega) (fun i f hi => by
    have hi' : i < fs.size := by
      have := (List.getElem?_eq_some_iff.1 hi).1
      simpa using this
    have h2 := hf i f (by rw [← Array.getElem?_toList]; exact hi)
    rw [List.getElem?_eq_getElem (by omega)] at h2
    exact ⟨_, h2⟩)
  simpa using this⟩

/-- a parameter that is a slice -/
theorem open_sl {H : Type} {enc : TypeId × Value → H} {w : World} {base : Nat} {spare : Nat → Bool} {held : Bool} {r : Reach} {b0 : Nat} {v : Value} {d : DataW H} {p : List MemPlace} {α : Type} {E : Rep α}
    (ho : Opens P t (slice E e)) (ht : P.underlying t = some (.slice e)) (hv : Value.okWide P w r b0 t v) (h : DataW.Trod enc P w base spare held t v d p) :
    ∃ A n c xs, v = .slice A n c ∧ SlAt E w w.heap.size xs A n c := by
  obtain ⟨A, n, c, rfl⟩ := okWide_slice ht hv
  obtain ⟨fuel, hf⟩ := h
  obtain ⟨xs, A', n', c', he, hx⟩ := ho.2 H enc w base spare held fuel _ _ hf
  simp [Value.cells] at he
  obtain ⟨rfl, rfl, rfl⟩ := he
  exact ⟨A, n, c, xs, rfl, hx⟩
/-- a parameter that is a struct -/
theorem open_st {H : Type} {enc : TypeId × Value → H} {w : World} {base : Nat} {spare : Nat → Bool} {held : Bool} {r : Reach} {b0 : Nat} {v : Value} {d : DataW H} {p : List MemPlace} {α : Type} {E : Rep α} {fs : Array Field}
    (ho : Opens P t E) (ht : P.underlying t = some (.struct fs)) (hv : Value.okWide P w r b0 t v) (h : DataW.Trod enc P w base spare held t v d p) :
    ∃ (cs : List Value) (x : α), v = .agg cs.toArray ∧ E.at_ w w.heap.size x cs := by
  obtain ⟨cs, rfl, _⟩ := okWide_struct ht hv
  obtain ⟨fuel, hf⟩ := h
  obtain ⟨x, hx⟩ := ho.2 H enc w base spare held fuel _ _ hf
  exact ⟨cs.toList, x, by simp, hx⟩
end Mm
end Go.Proofs.Ytnppcdiicnofpab

/-
  A region that draws its order: loads and calls that at most make memory, in one walk in the order of the text; behind them, in a row, what writes. No program in sight. No conditions.
-/
namespace Go.Proofs.Ytnppcdiicnofpab
open Go.RowKit

section
variable {P : Program} {ops : Array Oper} {md : Region.Mode} {C : World → Prop}
/-- whatever comes up, for so many rounds: it is one of the first n, and quiet in C -/
def headQ (P : Program) (md : Region.Mode) (ops : Array Oper) (C : World → Prop) (n : Nat) (L : Array Bool → Act → Prop) : Nat → Array Bool → Act → Prop
  | 0, listed, a => L listed a
  | f + 1, listed, a => Region.ready md ops listed ≠ [] ∧ ∀ i ∈ Region.ready md ops listed, i < n ∧ qOp P ops C i (headQ P md ops C n L f (listed.setIfInBounds i true)) a

theorem headQ_any {n g : Nat} {L : Array Bool → Act → Prop} {Q : Exit → Act → World → Prop} (hL : ∀ listed a w, C w → L listed a → wpAny P md ops Q g listed a w) :
    ∀ (f : Nat) (listed : Array Bool) (a : Act) (w : World), C w → headQ P md ops C n L f listed a → wpAny P md ops Q (f + g) listed a w
  | 0, listed, a, w, hw, h => by rw [Nat.zero_add]; exact hL _ _ _ hw h
  | f + 1, listed, a, w, hw, h => by
    rw [show f + 1 + g = (f + g) + 1 by omega]
    exact ⟨fun h0 => absurd h0 h.1, fun i hi => wpOp_of_qOp hw (fun a' w' hw' h' => headQ_any hL f _ a' w' hw' h') (h.2 i hi).2⟩

theorem headQ_first {n i : Nat} {oi : Oper} {v : Value} {L : Array Bool → Act → Prop} (hi : ops[i]? = some oi) (hsel : ∀ (j : Nat) (o : Oper) cs b, ops[j]? = some o → o.op ≠ .select cs b)
    (hs : Region.sinkB md ops n = true) (hc : Region.chainB md ops n = true) (hn : n < ops.size) (hin : i < n) (hdone : ∀ listed a, L listed a → ∀ j ∈ Region.ready md ops listed, n ≤ j) :
    ∀ (f : Nat) (listed : Array Bool) (a : Act), HeadInv md ops n listed →
      (∀ j oj, ops[j]? = some oj → j ≠ i → listed.getD j true = false → (∀ e ∈ oj.after, Region.binds md e = true → e.on ≠ i) → oi.apart ops oj = true) →
      i ∈ Region.ready md ops listed → YieldsIn P ops C oi v a → headQ P md ops C n L f (listed.setIfInBounds i true) (a.put oi.dst v) → headQ P md ops C n L (f + 1) listed a := by
  intro f
  induction f with
  | zero =>
    intro listed a inv _ hr hy H
    have hun := (mem_ready.1 hr).1
    refine ⟨List.ne_nil_of_mem hr, fun j hj => ?_⟩
    have hjn : j < n := Nat.lt_of_not_le fun h => tail_waits hs hc hn inv _ i rfl hin hun j h hj
    refine ⟨hjn, ?_⟩
    by_cases hji : j = i
    · subst hji; exact hy.qOp hi H
    · exact absurd (hdone _ _ H j (ready_mono hj hji)) (by omega)
  | succ f ih =>
    intro listed a inv hfree hr hy H
    have hun := (mem_ready.1 hr).1
    refine ⟨List.ne_nil_of_mem hr, fun j hj => ?_⟩
    have hjn : j < n := Nat.lt_of_not_le fun h => tail_waits hs hc hn inv _ i rfl hin hun j h hj
    refine ⟨hjn, ?_⟩
    by_cases hji : j = i
    · subst hji; exact hy.qOp hi H
    · obtain ⟨hjun, oj, hoj, hall⟩ := mem_ready.1 hj
      have hnot : ∀ e ∈ oj.after, Region.binds md e = true → e.on ≠ i := fun e he hb heq => by
        have h1 := hall e he hb
        rw [heq, getD_both hun] at h1
        cases h1
      have h2 := qOp_put hoj (hfree j oj hoj hji hjun hnot) (fun cs b => hsel i oi cs b hi) (fun cs b => hsel j oj cs b hoj) hy (H.2 j (ready_mono hj hji)).2
      refine qOp_mono (fun a' h3 => ih (listed.setIfInBounds j true) a' (inv.set hj hjn) (fun k ok hk hki hku hno => hfree k ok hk hki ?_ hno) (ready_mono hr (Ne.symm hji)) h3.1 (by rw [Array.setIfInBounds_comm _ _ hji]; exact h3.2)) h2
      by_cases hjk : j = k
      · subst hjk; exact hjun
      · rwa [getD_set_ne true hjk] at hku

theorem headQ_lex {n g : Nat} {Lq : Act → Prop} (hsel : Region.noSelect ops = true) (hs : Region.sinkB md ops n = true) (hc : Region.chainB md ops n = true) (hn : n < ops.size) :
    ∀ (l : List Oper) (k : Nat) (listed : Array Bool) (a : Act), (∀ j, j < l.length → l[j]? = ops[k + j]?) → k + l.length = n → HeadInv md ops n listed →
    Region.lexHead md ops g l.length k listed = true → wpQuiet P ops C Lq l a → headQ P md ops C n (fun listed' a' => Region.seqB md ops g n listed' = true ∧ Lq a') l.length listed a
  | [], k, listed, a, _, hk, _, hB, h => by
    have : k = n := by simpa using hk
    subst this
    exact ⟨by simpa [Region.lexHead] using hB, h⟩
  | o :: l, k, listed, a, hl, hk, inv, hB, h => by
    have h0 : ops[k]? = some o := by simpa using (hl 0 (by simp)).symm
    simp only [List.length_cons, Region.lexHead, Bool.and_eq_true] at hB
    obtain ⟨⟨hr, hf⟩, hB'⟩ := hB
    simp only [List.length_cons] at hk
    have hr' : k ∈ Region.ready md ops listed := by simpa using hr
    obtain ⟨v, hy, hK⟩ := yieldsIn_of_qOp (K := wpQuiet P ops C Lq l) h0 (by unfold qOp; simp only [h0]; exact h)
    exact headQ_first h0 (Region.noSelect_spec hsel) hs hc hn (by omega) (fun listed' a' hL => seqB_ready hL.1) l.length listed a inv (Region.free_spec h0 hf) hr' hy
      (headQ_lex hsel hs hc hn l (k + 1) _ _ (fun j hj => by have := hl (j + 1) (by simp; omega); simpa [Nat.add_assoc, Nat.add_comm 1 j] using this) (by omega) (inv.set hr' (by omega)) hB' hK)
end

theorem wpQuiet_mono' {P : Program} {ops : Array Oper} {C : World → Prop} {Q Q' : Act → Prop} (hq : ∀ a, Q a → Q' a) : ∀ (l : List Oper) (a : Act), wpQuiet P ops C Q l a → wpQuiet P ops C Q' l a
  | [], a, h => hq a h
  | o :: rest, a, h => by
    unfold wpQuiet at h ⊢
    split
    · rename_i hw
      rw [if_pos hw] at h
      exact Oper.quiet_mono (fun a h => wpQuiet_mono' hq rest a h) h
    · rename_i hw
      rw [if_neg hw] at h
      exact wpQuiet_mono' hq rest _ h

/-- the first n in one walk; what stands behind them in a row, in every world in which nothing that was there has turned -/
theorem wp_region_und_tail {P : Program} {id : Nat} {Q : Exit → Act → World → Prop} {a : Act} {w : World} {l : List Oper} (n : Nat) (hm : P.follows .mixedOrders = true) (hB : Region.lexTailB .any l.toArray n = true)
    (h : wpQuiet P l.toArray (fun w' => ∃ x : Und w, w' = und w x) (fun a' => ∀ X, Below w.heap.size w X → wpList P l.toArray Q (l.drop n) a' X) (l.take n) a) : (Code.region id l.toArray true).wp P Q a w := by
  simp only [Region.lexTailB, Bool.and_eq_true, decide_eq_true_eq] at hB
  obtain ⟨⟨⟨⟨hsel, hn⟩, hs⟩, hc⟩, hlex⟩ := hB
  have hn' : n < l.length := by simpa using hn
  have htl : (l.take n).length = n := by simp; omega
  have hdl : (l.drop n).length = l.toArray.size - n := by simp
  have inv0 : HeadInv .any l.toArray n (Array.replicate l.toArray.size false) :=
    ⟨by simp, fun j oj _ hl => (by rw [getD_replicate_false] at hl; cases hl), fun t _ ht => getD_in (by simpa using ht) (getD_replicate_false _ _)⟩
  have H := headQ_lex (md := .any) (g := l.toArray.size - n) hsel hs hc hn (l.take n) 0 _ a (fun j hj => by
    have hj' : j < n := by rw [htl] at hj; exact hj
    simp [hj']) (by simpa using htl) inv0 (by rw [htl]; exact hlex) (wpQuiet_mono' (Q' := fun a' => ∀ w', (∃ x : Und w, w' = und w x) → wpList P l.toArray Q (l.drop n) a' w') (fun a' hq w' ⟨x, hx⟩ => by subst hx; exact hq _ x.h) _ _ h)
  refine wp_region_any hm ?_
  have := headQ_any (Q := Q) (C := fun w' => ∃ x : Und w, w' = und w x) (g := l.toArray.size - n) (fun listed a' w' hw' hL => by
    have := wpAny_of_seq (md := .any) (Q' := Q) (l.drop n) n listed a' w' (fun j => by simp [List.getElem?_drop]) (by rw [hdl]; exact hL.1) (hL.2 w' hw')
    rwa [hdl] at this) _ _ _ _ ⟨⟨w.drew, (Below.refl _ _).drew⟩, rfl⟩ H
  rw [htl, show n + (l.toArray.size - n) = l.toArray.size by omega] at this
  exact this
end Go.Proofs.Ytnppcdiicnofpab

/-
  Contracts: labels and their texts. No conditions.
-/
namespace Go.Proofs.Ytnppcdiicnofpab
open Go.RowKit
attribute [local go_sem] und_cell World.cell?_alloc_some
theorem isLabel_c (x : Label) (w : World) (h1 : x.Name.size ≤ maxLen) (h2 : x.Value.size ≤ maxLen) :
    Calls Try.prog 61 #[.agg #[.string x.Name, .string x.Value]] w fun e w' => e = .returned (.bool (Pl.labelOk x)) ∧ Below w.heap.size w w' := by
  have hb0 : Below w.heap.size w (w.alloc (.cells #[.string x.Name, .string x.Value] 79)) := below_new (Below.refl _ _) _
  cases k1 : Pl.word false x.Name.data.toList
  · go_enter Try.func61, Try.ntmps61
    go_wp2_with (go_at_call 71; refine (isWord_c _ _ _ (by assumption)).mono ?_; rintro e w' ⟨rfl, rfl⟩)
    go_ret
    exact ⟨ret_bool (by unfold Pl.labelOk; rw [k1]; rfl), hb0⟩
  · go_enter Try.func61, Try.ntmps61
    go_wp2_with (go_at_call 71; refine (isWord_c _ _ _ (by assumption)).mono ?_; rintro e w' ⟨rfl, rfl⟩)
    go_ret
    exact ⟨ret_bool (by unfold Pl.labelOk; rw [k1]; simp), hb0⟩
--%labs
set_option maxRecDepth 100000 in
set_option maxHeartbeats 2000000 in
theorem areLabels_c (l : List Label) (A : Option Addr) (n c : Nat) (w : World) (B : Nat) (hl : Mm.SlAt rLabel w B l A n c) (hB : B ≤ w.heap.size) :
    Calls Try.prog 46 #[.slice A n c] w fun e w' => e = .returned (.bool (Pl.labelsOk l)) ∧ Below w.heap.size w w' := by
  have hlen : Hid (l.length = n) := hl.1
  have hn : n ≤ maxLen := Nat.le_trans hl.2.1 hl.2.2.1
  unfold maxLen at hn
  have HL := Lib.hid hl
  clear hl
  go_enter Try.func46, Try.ntmps46
  go_wp2
  go_loopg [7] n (fun g i wr => Below w.heap.size w wr ∧ ∃ k : Nat, n - k ≤ g ∧ k ≤ n ∧ i = .int .i64 k ∧ Hid (∀ j, j < k → Pl.labP l j = true))
  case atStart => exact ⟨Below.refl _ _, 0, Nat.le_refl _, Nat.zero_le _, rfl, fun j hj => absurd hj (Nat.not_lt_zero j)⟩
  case round =>
    obtain ⟨hbel, k, hgk, hk, rfl, HU⟩ := hrel
    obtain ⟨W, rfl⟩ : ∃ W : World, W = wr := ⟨_, rfl⟩
    have HLw := Lib.hid (HL.out.keep fun b hb' => hbel.block b (Nat.lt_of_lt_of_le hb' hB))
    have HBL := Lib.hid hbel
    have hsw := hbel.size
    clear hbel
    by_cases hlt : k < n
    · obtain ⟨x, b0, off, hx, rfl, hbb, g0, g1, d0, d1⟩ := rLabel_get HLw.out hlt
      obtain ⟨z, hz, -, e0, e1, q0, q1⟩ := rLabel_get' HLw.out (show k - 1 < n by omega)
      have HP : Hid (Pl.labP l k = Pl.labQ k x z) := by show _ = _; unfold Pl.labP; rw [Pl.labAt_of hx, Pl.labAt_of hz]
      have NO : Hid (Pl.labQ k x z = false → Pl.labelsOk l = false) := fun h => by
        unfold Pl.labelsOk; rw [Pl.allB_no (by rw [hlen.out]; exact hlt) (by rw [HP.out, h])]; rfl
      clear hx hz
      have hlt' : (k : Int) < (n : Nat) := by omega
      have hlt2 : (0 : Int) ≤ (k : Nat) := by omega
      cases kk : Pl.labelOk x
      · have HV := Lib.hid (NO.out (by unfold Pl.labQ; rw [kk]; rfl))
        clear NO HP
        go_wp2
        refine wp_region_und (by kernel_rfl) (by kernel_rfl) ?_
        repeat (go_big_quiet_step ((first | (go_at_call 61; exact und_call _ (isLabel_c x _ g0 g1)))))
        refine wpQuiet_nil ?_
        intro X hX
        have hbx := Lib.hid (below_step HBL.out (below_step (below_new (Below.refl _ _) _) hX))
        go_wp2
        go_ret
        exact ⟨ret_bool HV.out.symm, hbx.out⟩
      · skip
        by_cases hk0 : k = 0
        · subst hk0
          clear q0 q1
          simp only [Nat.zero_mul, Nat.add_zero] at d0 d1
          have HN := Lib.hid (Pl.snocB HU.out (by rw [HP.out]; unfold Pl.labQ; rw [kk]; rfl))
          clear NO HP
          go_wp2
          refine wp_region_und (by kernel_rfl) (by kernel_rfl) ?_
          repeat (go_big_quiet_step ((first | (go_at_call 61; exact und_call _ (isLabel_c x _ g0 g1)))))
          refine wpQuiet_nil ?_
          intro X hX
          have hbx := Lib.hid (below_step HBL.out (below_step (below_new (Below.refl _ _) _) hX))
          go_wp2
          go_roundg (n - (0 + 1))
          case measure => omega
          case rel => exact ⟨hbx.out, 0 + 1, Nat.le_refl _, by omega, by go_num, HN.out⟩
        · obtain ⟨k, rfl⟩ : ∃ j, k = j + 1 := ⟨k - 1, by omega⟩
          rw [Nat.add_sub_cancel] at q0 q1
          have hw1 : IntKind.i64.wrap (((k + 1 : Nat) : Int) - 1) = (k : Nat) := by rw [show ((k + 1 : Nat) : Int) - 1 = (k : Nat) by omega]; exact IntWalk.i64_in _ (by omega)
          have hk3 : (0 : Int) < ((k + 1 : Nat) : Int) := by omega
          have hk4 : (0 : Int) ≤ ((k : Nat) : Int) := by omega
          have hk5 : ((k : Nat) : Int) < (n : Nat) := by omega
          cases kl : Pl.lessB z.Name x.Name
          · have kl' : Op.bytesLess z.Name.toList x.Name.toList = false := kl
            have HV := Lib.hid (NO.out (by unfold Pl.labQ; rw [kk]; rw [kl]; rfl))
            clear NO HP
            go_wp2
            refine wp_region_und (by kernel_rfl) (by kernel_rfl) ?_
            repeat (go_big_quiet_step ((first | (go_at_call 61; exact und_call _ (isLabel_c x _ g0 g1)))))
            refine wpQuiet_nil ?_
            intro X hX
            have hbx := Lib.hid (below_step HBL.out (below_step (below_new (Below.refl _ _) _) hX))
            go_wp2
            go_ret
            exact ⟨ret_bool HV.out.symm, hbx.out⟩
          · skip
            have kl' : Op.bytesLess z.Name.toList x.Name.toList = true := kl
            have HN := Lib.hid (Pl.snocB HU.out (by rw [HP.out]; unfold Pl.labQ; rw [kk]; rw [kl]; simp))
            clear NO HP
            go_wp2
            refine wp_region_und (by kernel_rfl) (by kernel_rfl) ?_
            repeat (go_big_quiet_step ((first | (go_at_call 61; exact und_call _ (isLabel_c x _ g0 g1)))))
            refine wpQuiet_nil ?_
            intro X hX
            have hbx := Lib.hid (below_step HBL.out (below_step (below_new (Below.refl _ _) _) hX))
            go_wp2
            go_roundg (n - (k + 1 + 1))
            case measure => omega
            case rel => exact ⟨hbx.out, k + 1 + 1, Nat.le_refl _, by omega, by go_num, HN.out⟩
    · have HF : Hid (Pl.labelsOk l = decide (n ≤ 6)) := by
        show _ = _
        unfold Pl.labelsOk
        rw [Pl.allB_yes (fun j hj => HU.out j (by rw [hlen.out] at hj; omega)), hlen.out]
        rfl
      obtain rfl : k = n := by omega
      go_wp2
      go_ret
      exact ⟨ret_bool (by rw [HF.out]; exact decide_eq_decide.2 (by omega)), HBL.out⟩
set_option maxRecDepth 100000 in
set_option maxHeartbeats 2000000 in
theorem GoodLabels_c (l : List Label) (A : Option Addr) (n c : Nat) (w : World) (B : Nat) (hl : Mm.SlAt rLabel w B l A n c) (hB : B ≤ w.heap.size) :
    Calls Try.prog 39 #[.slice A n c] w fun e w' => e = .returned (.bool (Pl.labelsOk l)) ∧ Below w.heap.size w w' := by
  have hlen : Hid (l.length = n) := hl.1
  have hn : n ≤ maxLen := Nat.le_trans hl.2.1 hl.2.2.1
  unfold maxLen at hn
  have HL := Lib.hid hl
  clear hl
  go_enter Try.func39, Try.ntmps39
  go_wp2
  go_loopg [7] n (fun g i wr => Below w.heap.size w wr ∧ ∃ k : Nat, n - k ≤ g ∧ k ≤ n ∧ i = .int .i64 k ∧ Hid (∀ j, j < k → Pl.labP l j = true))
  case atStart => exact ⟨Below.refl _ _, 0, Nat.le_refl _, Nat.zero_le _, rfl, fun j hj => absurd hj (Nat.not_lt_zero j)⟩
  case round =>
    obtain ⟨hbel, k, hgk, hk, rfl, HU⟩ := hrel
    obtain ⟨W, rfl⟩ : ∃ W : World, W = wr := ⟨_, rfl⟩
    have HLw := Lib.hid (HL.out.keep fun b hb' => hbel.block b (Nat.lt_of_lt_of_le hb' hB))
    have HBL := Lib.hid hbel
    have hsw := hbel.size
    clear hbel
    by_cases hlt : k < n
    · obtain ⟨x, b0, off, hx, rfl, hbb, g0, g1, d0, d1⟩ := rLabel_get HLw.out hlt
      obtain ⟨z, hz, -, e0, e1, q0, q1⟩ := rLabel_get' HLw.out (show k - 1 < n by omega)
      have HP : Hid (Pl.labP l k = Pl.labQ k x z) := by show _ = _; unfold Pl.labP; rw [Pl.labAt_of hx, Pl.labAt_of hz]
      have NO : Hid (Pl.labQ k x z = false → Pl.labelsOk l = false) := fun h => by
        unfold Pl.labelsOk; rw [Pl.allB_no (by rw [hlen.out]; exact hlt) (by rw [HP.out, h])]; rfl
      clear hx hz
      have hlt' : (k : Int) < (n : Nat) := by omega
      have hlt2 : (0 : Int) ≤ (k : Nat) := by omega
      have CN := fun q : Und (W.alloc (.cells #[.string x.Name, .string x.Value] 79)) => und_same q (l3Name_c x.Name false _ g0)
      have CV := fun q : Und (W.alloc (.cells #[.string x.Name, .string x.Value] 79)) => und_same q (l3Name_c x.Value true _ g1)
      cases k1 : Pl.word false x.Name.data.toList
      · have HV := Lib.hid (NO.out (by unfold Pl.labQ; unfold Pl.labelOk; rw [k1]; rfl))
        clear NO HP
        go_wp2
        refine wp_region_und (by kernel_rfl) (by kernel_rfl) ?_
        repeat (go_big_quiet_step ((first | (go_at_call 59; first | (with_reducible exact CN _) | (with_reducible exact CV _)))))
        refine wpQuiet_nil ?_
        intro X hX
        have hbx := Lib.hid (below_step HBL.out (below_step (below_new (Below.refl _ _) _) hX))
        go_wp2
        go_ret
        exact ⟨ret_bool HV.out.symm, hbx.out⟩
      · skip
        cases k2 : Pl.word true x.Value.data.toList
        · have HV := Lib.hid (NO.out (by unfold Pl.labQ; unfold Pl.labelOk; rw [k1, k2]; rfl))
          clear NO HP
          go_wp2
          refine wp_region_und (by kernel_rfl) (by kernel_rfl) ?_
          repeat (go_big_quiet_step ((first | (go_at_call 59; first | (with_reducible exact CN _) | (with_reducible exact CV _)))))
          refine wpQuiet_nil ?_
          intro X hX
          have hbx := Lib.hid (below_step HBL.out (below_step (below_new (Below.refl _ _) _) hX))
          go_wp2
          go_ret
          exact ⟨ret_bool HV.out.symm, hbx.out⟩
        · skip
          by_cases hk0 : k = 0
          · subst hk0
            clear q0 q1
            simp only [Nat.zero_mul, Nat.add_zero] at d0 d1
            have HN := Lib.hid (Pl.snocB HU.out (by rw [HP.out]; unfold Pl.labQ; unfold Pl.labelOk; rw [k1, k2]; rfl))
            clear NO HP
            go_wp2
            refine wp_region_und (by kernel_rfl) (by kernel_rfl) ?_
            repeat (go_big_quiet_step ((first | (go_at_call 59; first | (with_reducible exact CN _) | (with_reducible exact CV _)))))
            refine wpQuiet_nil ?_
            intro X hX
            have hbx := Lib.hid (below_step HBL.out (below_step (below_new (Below.refl _ _) _) hX))
            go_wp2
            go_roundg (n - (0 + 1))
            case measure => omega
            case rel => exact ⟨hbx.out, 0 + 1, Nat.le_refl _, by omega, by go_num, HN.out⟩
          · obtain ⟨k, rfl⟩ : ∃ j, k = j + 1 := ⟨k - 1, by omega⟩
            rw [Nat.add_sub_cancel] at q0 q1
            have hw1 : IntKind.i64.wrap (((k + 1 : Nat) : Int) - 1) = (k : Nat) := by rw [show ((k + 1 : Nat) : Int) - 1 = (k : Nat) by omega]; exact IntWalk.i64_in _ (by omega)
            have hk3 : (0 : Int) < ((k + 1 : Nat) : Int) := by omega
            have hk4 : (0 : Int) ≤ ((k : Nat) : Int) := by omega
            have hk5 : ((k : Nat) : Int) < (n : Nat) := by omega
            cases kl : Pl.lessB z.Name x.Name
            · have kl' : Op.bytesLess z.Name.toList x.Name.toList = false := kl
              have HV := Lib.hid (NO.out (by unfold Pl.labQ; unfold Pl.labelOk; rw [k1, k2]; rw [kl]; rfl))
              clear NO HP
              go_wp2
              refine wp_region_und (by kernel_rfl) (by kernel_rfl) ?_
              repeat (go_big_quiet_step ((first | (go_at_call 59; first | (with_reducible exact CN _) | (with_reducible exact CV _)))))
              refine wpQuiet_nil ?_
              intro X hX
              have hbx := Lib.hid (below_step HBL.out (below_step (below_new (Below.refl _ _) _) hX))
              go_wp2
              go_ret
              exact ⟨ret_bool HV.out.symm, hbx.out⟩
            · skip
              have kl' : Op.bytesLess z.Name.toList x.Name.toList = true := kl
              have HN := Lib.hid (Pl.snocB HU.out (by rw [HP.out]; unfold Pl.labQ; unfold Pl.labelOk; rw [k1, k2]; rw [kl]; simp))
              clear NO HP
              go_wp2
              refine wp_region_und (by kernel_rfl) (by kernel_rfl) ?_
              repeat (go_big_quiet_step ((first | (go_at_call 59; first | (with_reducible exact CN _) | (with_reducible exact CV _)))))
              refine wpQuiet_nil ?_
              intro X hX
              have hbx := Lib.hid (below_step HBL.out (below_step (below_new (Below.refl _ _) _) hX))
              go_wp2
              go_roundg (n - (k + 1 + 1))
              case measure => omega
              case rel => exact ⟨hbx.out, k + 1 + 1, Nat.le_refl _, by omega, by go_num, HN.out⟩
    · have HF : Hid (Pl.labelsOk l = decide (n ≤ 6)) := by
        show _ = _
        unfold Pl.labelsOk
        rw [Pl.allB_yes (fun j hj => HU.out j (by rw [hlen.out] at hj; omega)), hlen.out]
        rfl
      obtain rfl : k = n := by omega
      go_wp2
      go_ret
      exact ⟨ret_bool (by rw [HF.out]; exact decide_eq_decide.2 (by omega)), HBL.out⟩
--%endlabs
end Go.Proofs.Ytnppcdiicnofpab

/-
  Contracts: the texts of labels. No conditions.
-/
namespace Go.Proofs.Ytnppcdiicnofpab
open Go.RowKit
attribute [local go_sem] und_cell World.cell?_alloc_some
theorem Pl.labS_zero (l : List Label) : (⟨#[123]⟩ : ByteArray) = ⟨(123 :: Pl.labBody (l.take 0)).toArray⟩ := rfl
theorem Pl.labS_one {l : List Label} {x : Label} (h : l[0]? = some x) : (⟨#[123]⟩ : ByteArray) ++ (x.Name ++ ⟨#[61]⟩ ++ x.Value) = ⟨(123 :: Pl.labBody (l.take (0 + 1))).toArray⟩ := by
  refine Pl.ba_ext ?_
  rw [Pl.labBody_next h, if_pos rfl]
  simp [ByteArray.data_append, Pl.labTxt]
theorem Pl.labS_next {l : List Label} {k : Nat} {x : Label} (h : l[k]? = some x) (hk : k ≠ 0) : (⟨(123 :: Pl.labBody (l.take k)).toArray⟩ : ByteArray) ++ ⟨#[44]⟩ ++ (x.Name ++ ⟨#[61]⟩ ++ x.Value) = ⟨(123 :: Pl.labBody (l.take (k + 1))).toArray⟩ := by
  refine Pl.ba_ext ?_
  rw [Pl.labBody_next h, if_neg hk]
  simp [ByteArray.data_append, Pl.labTxt]
theorem Pl.labelOk_sz {x : Label} (h : Pl.labelOk x = true) : 1 ≤ x.Name.size ∧ x.Name.size ≤ 8 ∧ 1 ≤ x.Value.size ∧ x.Value.size ≤ 8 := by
  unfold Pl.labelOk at h
  rw [Bool.and_eq_true] at h
  have h1 := Pl.word_len h.1
  have h2 := Pl.word_len h.2
  exact ⟨h1.1, h1.2, h2.1, h2.2⟩
set_option maxRecDepth 100000 in
set_option maxHeartbeats 1000000 in
theorem l3Text_c (l : List Label) (A : Option Addr) (n c : Nat) (w : World) (B : Nat) (hl : Mm.SlAt rLabel w B l A n c) (hB : B ≤ w.heap.size) (hok : Pl.labelsOk l = true) :
    Calls Try.prog 40 #[.slice A n c] w fun e w' => e = .returned (.string (Pl.labelsText l)) ∧ Below w.heap.size w w' := by
  have hlen : Hid (l.length = n) := hl.1
  have hn : n ≤ maxLen := Nat.le_trans hl.2.1 hl.2.2.1
  unfold maxLen at hn
  have HL := Lib.hid hl
  have HOK := Lib.hid hok
  clear hl hok
  go_enter Try.func40, Try.ntmps40
  go_wp2
  go_loopg [3, 8] n (fun g s i wr => Below w.heap.size w wr ∧ ∃ k : Nat, n - k ≤ g ∧ k ≤ n ∧ i = .int .i64 k ∧ ∃ sb : ByteArray, s = .string sb ∧ sb.size ≤ 18 * k + 1 ∧ Hid (sb = ⟨(123 :: Pl.labBody (l.take k)).toArray⟩))
  case atStart => exact ⟨Below.refl _ _, 0, Nat.le_refl _, Nat.zero_le _, rfl, _, rfl, Nat.le_refl _, rfl⟩
  case round =>
    obtain ⟨hbel, k, hgk, hk, rfl, sb, rfl, hsb, HSB⟩ := hrel
    have hn6 := Pl.labelsOk_len HOK.out
    have hnn := hlen.out
    obtain ⟨W, rfl⟩ : ∃ W : World, W = wr := ⟨_, rfl⟩
    have HLw := Lib.hid (HL.out.keep fun b hb' => hbel.block b (Nat.lt_of_lt_of_le hb' hB))
    have HBL := Lib.hid hbel
    clear hbel
    by_cases hlt : k < n
    · obtain ⟨x, b0, off, hx, rfl, hbb, g0, g1, d0, d1⟩ := rLabel_get HLw.out hlt
      have hlt' : (k : Int) < (n : Nat) := by omega
      have hlt2 : (0 : Int) ≤ (k : Nat) := by omega
      have HX := Lib.hid hx
      have hnz := Pl.labelOk_sz (Pl.labelsOk_at HOK.out hx)
      obtain ⟨z1, z2, z3, z4⟩ := hnz
      clear hx
      by_cases hk0 : k = 0
      · subst hk0
        simp only [Nat.zero_mul, Nat.add_zero] at d0 d1
        go_wp2
        go_roundg (n - (0 + 1))
        case measure => omega
        case rel => exact ⟨below_step HBL.out (below_new (Below.refl _ _) _), 0 + 1, Nat.le_refl _, by omega, by go_num, _, rfl, by have y1 : (⟨#[61]⟩ : ByteArray).size = 1 := rfl; have y2 : (⟨#[44]⟩ : ByteArray).size = 1 := rfl; simp only [ByteArray.size_append]; omega, by show _ = _; rw [HSB.out, ← Pl.labS_one HX.out]; rfl⟩
      · have hk1 : (0 : Int) < (k : Nat) := by omega
        have HK := Lib.hid hk0
        clear hk0
        go_wp2
        go_roundg (n - (k + 1))
        case measure => omega
        case rel => exact ⟨below_step HBL.out (below_new (Below.refl _ _) _), k + 1, Nat.le_refl _, by omega, by go_num, _, rfl, by have y1 : (⟨#[61]⟩ : ByteArray).size = 1 := rfl; have y2 : (⟨#[44]⟩ : ByteArray).size = 1 := rfl; simp only [ByteArray.size_append]; omega, by show _ = _; rw [HSB.out, ← Pl.labS_next HX.out HK.out]⟩
    · obtain rfl : k = n := by omega
      have HT : Hid (l.take k = l) := List.take_of_length_le (by rw [hlen.out]; exact Nat.le_refl _)
      have hlt' : ¬ (k : Int) < (k : Nat) := by omega
      go_wp2
      go_ret
      exact ⟨by rw [HSB.out, HT.out, show Pl.labelsText l = (⟨(123 :: Pl.labBody l).toArray⟩ : ByteArray) ++ ⟨#[125]⟩ from Pl.ba_ext (by simp [ByteArray.data_append, Pl.labelsText])]; rfl, HBL.out⟩
def Pl.labB (x : Label) : ByteArray := ⟨(Pl.labTxt x).toArray⟩
theorem Pl.labB_of (x : Label) : x.Name ++ (⟨#[61]⟩ : ByteArray) ++ x.Value = Pl.labB x := Pl.ba_ext (by simp [ByteArray.data_append, Pl.labTxt, Pl.labB])
def Pl.pcells (l : List Label) (n k : Nat) : List Value := ((l.take k).map fun x => Value.string (Pl.labB x)) ++ List.replicate (n - k) (.string ⟨#[]⟩)
theorem Pl.pcells_set {l : List Label} {n k : Nat} {x : Label} (hx : l[k]? = some x) (hn : l.length = n) : (Pl.pcells l n k).set k (.string (Pl.labB x)) = Pl.pcells l n (k + 1) := by
  obtain ⟨hk, hg⟩ := List.getElem?_eq_some_iff.1 hx
  unfold Pl.pcells
  have h1 : ((l.take k).map fun x => Value.string (Pl.labB x)).length = k := by rw [List.length_map, List.length_take]; omega
  rw [List.set_append_right _ _ (by omega), h1, Nat.sub_self, show n - k = (n - (k + 1)) + 1 by omega, List.replicate_succ, List.set_cons_zero, List.take_succ_eq_append_getElem hk, hg, List.map_append, List.append_assoc]
  rfl
theorem Pl.pcells_get {l : List Label} {n k : Nat} (hn : l.length = n) (hk : k < n) : ∃ u, (Pl.pcells l n k)[k]? = some u := by
  refine ⟨_, List.getElem?_eq_getElem ?_⟩
  unfold Pl.pcells
  rw [List.length_append, List.length_map, List.length_take, List.length_replicate]
  omega
theorem Pl.pcells_end {l : List Label} {n : Nat} (hn : l.length = n) {j : Nat} {x : Label} (hx : l[j]? = some x) : (Pl.pcells l n n)[j]? = some (.string (Pl.labB x)) := by
  unfold Pl.pcells
  rw [List.take_of_length_le (by omega), Nat.sub_self, List.replicate_zero, List.append_nil, List.getElem?_map, hx]
  rfl
theorem join_c (l : List Label) (g c : Nat) (w : World) (hc : ∀ (j : Nat) x, l[j]? = some x → w.cell? ⟨g, j, none⟩ = some (.string (Pl.labB x))) (hg : g < w.heap.size) (hlc : l.length ≤ c) (hok : Pl.labelsOk l = true) :
    Calls Try.prog 64 #[.slice (some ⟨g, 0, none⟩) l.length c, .string ⟨#[44]⟩] w fun e w' => e = .returned (.string ⟨(Pl.labBody l).toArray⟩) ∧ Below w.heap.size w w' := by
  have h6 := Pl.labelsOk_len hok
  have hb := Pl.labBody_len hok
  have e1 : (l.map Pl.labB).map (·.data.toList) = l.map Pl.labTxt := by rw [List.map_map]; rfl
  have := Any.strings_Join ljJoin ljX g 0 c (l.map Pl.labB) ⟨#[44]⟩ w (fun j x hx => by
    rw [List.getElem?_map] at hx
    cases hj : l[j]? with
    | none => rw [hj] at hx; cases hx
    | some y => rw [hj] at hx; injection hx with hx; subst hx; rw [Nat.zero_add]; exact hc j y hj) hg (by rw [List.length_map]; omega) (by rw [List.length_map]; exact hlc) (by rw [e1]; exact Nat.le_trans hb (by decide))
  rw [e1, List.length_map] at this
  exact this
theorem upto6z {p : Nat → Prop} (h0 : p 0) (h1 : p 1) (h2 : p 2) (h3 : p 3) (h4 : p 4) (h5 : p 5) (h6 : p 6) (n : Nat) (b : n ≤ 6) : p n := by
  have : n = 0 ∨ n = 1 ∨ n = 2 ∨ n = 3 ∨ n = 4 ∨ n = 5 ∨ n = 6 := by omega
  rcases this with rfl | rfl | rfl | rfl | rfl | rfl | rfl <;> assumption
theorem make_strs6 (n : Nat) (h6 : n ≤ 6) (W : World) : (Instr.makeSlice 24 (.int .i64 n) (.int .i64 n)).run Try.prog W = .ok (.slice (some ⟨W.heap.size, 0, none⟩) n n) (W.alloc (.cells (List.replicate n (.string ⟨#[]⟩)).toArray 9)) :=
  upto6z (p := fun n => (Instr.makeSlice 24 (.int .i64 n) (.int .i64 n)).run Try.prog W = .ok (.slice (some ⟨W.heap.size, 0, none⟩) n n) (W.alloc (.cells (List.replicate n (.string ⟨#[]⟩)).toArray 9))) (by kernel_rfl) (by kernel_rfl) (by kernel_rfl) (by kernel_rfl) (by kernel_rfl) (by kernel_rfl) (by kernel_rfl) n h6
set_option maxRecDepth 100000 in
set_option maxHeartbeats 1000000 in
theorem labelsText_c (l : List Label) (A : Option Addr) (n c : Nat) (w : World) (B : Nat) (hl : Mm.SlAt rLabel w B l A n c) (hB : B ≤ w.heap.size) (hok : Pl.labelsOk l = true) :
    Calls Try.prog 52 #[.slice A n c] w fun e w' => e = .returned (.string (Pl.labelsText l)) ∧ Below w.heap.size w w' := by
  have hlen : Hid (l.length = n) := hl.1
  have hn : n ≤ maxLen := Nat.le_trans hl.2.1 hl.2.2.1
  have hn6 : n ≤ 6 := by have := Pl.labelsOk_len hok; have := hlen.out; omega
  unfold maxLen at hn
  have HL := Lib.hid hl
  have HOK := Lib.hid hok
  have hmk := make_strs6 n hn6
  have HS0 := Lib.hid (show Mm.SepF [] w _ [Mm.tblk w.heap.size 9 (Pl.pcells l n 0)] from (Mm.SepF.start w).alloc' rfl 9 (List.replicate n (.string ⟨#[]⟩)))
  clear hl hok
  go_enter Try.func52, Try.ntmps52
  go_wp2
  go_loopg [11] n (fun g i wr => ∃ k : Nat, n - k ≤ g ∧ k ≤ n ∧ i = .int .i64 k ∧ Hid (Mm.SepF [] w wr [Mm.tblk w.heap.size 9 (Pl.pcells l n k)]))
  case atStart => exact ⟨0, Nat.le_refl _, Nat.zero_le _, rfl, HS0.out⟩
  case round =>
    clear HS0 hmk
    obtain ⟨k, hgk, hk, rfl, HS⟩ := hrel
    obtain ⟨W, rfl⟩ : ∃ W : World, W = wr := ⟨_, rfl⟩
    have HLw := Lib.hid (HL.out.keep fun b hb' => HS.out.bel0.block b (Nat.lt_of_lt_of_le hb' hB))
    by_cases hlt : k < n
    · obtain ⟨x, b0, off, hx, rfl, hbb, g0, g1, d0, d1⟩ := rLabel_get HLw.out hlt
      have hlt' : (k : Int) < (n : Nat) := by omega
      have hlt2 : (0 : Int) ≤ (k : Nat) := by omega
      obtain ⟨z1, z2, z3, z4⟩ := Pl.labelOk_sz (Pl.labelsOk_at HOK.out hx)
      obtain ⟨u0, hu0⟩ := Pl.pcells_get hlen.out hlt
      have s0 := HS.out.cell 0 rfl hu0
      have s1 := HS.out.frz (k := k) 0 rfl
      have HX := Lib.hid hx
      have HS2 := Lib.hid ((HS.out.setBlk (k := k) 0 rfl (.string (x.Name ++ (⟨#[61]⟩ : ByteArray) ++ x.Value))).step (below_new (Below.refl _ _) (.cells #[.string x.Name, .string x.Value] 79)))
      have hgw : w.heap.size < W.heap.size := (HS.out.blk 0 rfl).1
      clear hx hu0
      go_wp2
      go_roundg (n - (k + 1))
      case measure => omega
      case rel => exact ⟨k + 1, Nat.le_refl _, by omega, by go_num, by rw [← Pl.pcells_set HX.out hlen.out, ← Pl.labB_of]; exact HS2.out⟩
    · obtain rfl : k = n := by omega
      have hlt' : ¬ (k : Int) < (k : Nat) := by omega
      have HB0 := Lib.hid HS.out.bel0
      have hln := hlen.out
      have HJ := Lib.hid (join_c l w.heap.size k W (fun j x hx => HS.out.cell 0 rfl (Pl.pcells_end hlen.out hx)) (HS.out.blk 0 rfl).1 (by omega) HOK.out)
      rw [hln] at HJ
      have hbl := Pl.labBody_len HOK.out
      obtain ⟨tb, htb⟩ : ∃ tb : ByteArray, tb = ⟨(Pl.labBody l).toArray⟩ := ⟨_, rfl⟩
      have hts : tb.size ≤ 108 := by rw [htb]; exact hbl
      rw [← htb] at HJ
      have HTB := Lib.hid htb
      clear htb hln
      go_wp2_with (go_at_call 64; (with_reducible refine HJ.out.mono ?_); rintro e w1 ⟨rfl, hb1⟩)
      go_ret
      exact ⟨by rw [HTB.out, show Pl.labelsText l = (⟨#[123]⟩ : ByteArray) ++ ⟨(Pl.labBody l).toArray⟩ ++ ⟨#[125]⟩ from Pl.ba_ext (by simp [ByteArray.data_append, Pl.labelsText])]; rfl, below_step HB0.out hb1⟩
end Go.Proofs.Ytnppcdiicnofpab

/-
  Contracts: which totals are good. No conditions.
-/
namespace Go.Proofs.Ytnppcdiicnofpab
open Go.RowKit
attribute [local go_sem] und_cell World.cell?_alloc_some
theorem nblk1 (w : World) (o : Obj) : (w.alloc o).heap.size = w.heap.size + 1 := by show (w.heap.push o).size = _; simp
theorem Mm.SlAt.alloc' {α : Type} {E : Mm.Rep α} {w : World} {B : Nat} {xs : List α} {A : Option Addr} {n c : Nat} (h : Mm.SlAt E w B xs A n c) (hB : B ≤ w.heap.size) (o : Obj) : Mm.SlAt E (w.alloc o) B xs A n c :=
  h.keep fun b hb => (below_new (Below.refl _ _) o).block b (by omega)
set_option maxRecDepth 100000 in
set_option maxHeartbeats 4000000 in
theorem areTotals_c (l : List Total) (A : Option Addr) (n c : Nat) (w : World) (B : Nat) (hl : Mm.SlAt rTotal w B l A n c) (hB : B ≤ w.heap.size) :
    Calls Try.prog 26 #[.slice A n c] w fun e w' => e = .returned (.bool (Pl.totalsOk l)) ∧ Below w.heap.size w w' := by
  have hlen : Hid (l.length = n) := hl.1
  have hn : n ≤ maxLen := Nat.le_trans hl.2.1 hl.2.2.1
  unfold maxLen at hn
  have HL := Lib.hid hl
  clear hl
  go_enter Try.func26, Try.ntmps26
  go_wp2
  go_loopg [7] n (fun g i wr => Below w.heap.size w wr ∧ ∃ k : Nat, n - k ≤ g ∧ k ≤ n ∧ i = .int .i64 k ∧ Hid (∀ j, j < k → Pl.totP l j = true))
  case atStart => exact ⟨Below.refl _ _, 0, Nat.le_refl _, Nat.zero_le _, rfl, fun j hj => absurd hj (Nat.not_lt_zero j)⟩
  case round =>
    obtain ⟨hbel, k, hgk, hk, rfl, HU⟩ := hrel
    obtain ⟨W, rfl⟩ : ∃ W : World, W = wr := ⟨_, rfl⟩
    have HLw := Lib.hid (HL.out.keep fun b hb' => hbel.block b (Nat.lt_of_lt_of_le hb' hB))
    have HBL := Lib.hid hbel
    have hsw := hbel.size
    clear hbel
    by_cases hlt : k < n
    · obtain ⟨x, b0, off, A1, n1, c1, hx, rfl, hbb, hlx, g1, g2, g3, g4, d0, d1, d2, d3, d4⟩ := rTotal_get HLw.out hlt
      obtain ⟨z, A2, n2, c2, hz, -, hlz, -, -, -, -, q0, -⟩ := rTotal_get' HLw.out (show k - 1 < n by omega)
      have HP : Hid (Pl.totP l k = Pl.totQ k x z) := by show _ = _; unfold Pl.totP; rw [Pl.totAt_of hx, Pl.totAt_of hz]
      have NO : Hid (Pl.totQ k x z = false → Pl.totalsOk l = false) := fun h => by
        unfold Pl.totalsOk; rw [Pl.allB_no (by rw [hlen.out]; exact hlt) (by rw [HP.out, h])]; rfl
      have HZ : Hid (k ≠ 0 → Pl.labelsOk z.Labels = true) := fun h0 => by
        have h1 := HU.out (k - 1) (by omega)
        unfold Pl.totP Pl.totQ at h1
        rw [Pl.totAt_of hz, Bool.and_eq_true] at h1
        exact Pl.totOk_lab h1.1
      clear hx hz
      obtain ⟨xL, xS, xC, xA, xM⟩ := x
      obtain ⟨zL, zS, zC, zA, zM⟩ := z
      dsimp only at hlx g1 g2 g3 g4 d0 d1 d2 d3 d4 hlz q0
      have HLX := Lib.hid hlx
      have HLZ := Lib.hid hlz
      clear hlx hlz
      have hlt' : (k : Int) < (n : Nat) := by omega
      have hlt2 : (0 : Int) ≤ (k : Nat) := by omega
      have CA := fun q : Und (W.alloc (.cells #[.slice A1 n1 c1, .int .i64 xS, .int .i64 xC, .int .i64 xA, .int .i64 xM] 59)) => und_call q (areLabels_c xL A1 n1 c1 _ B ((HLX.out.alloc' (by omega) _).und (by have := nblk1 W (.cells #[.slice A1 n1 c1, .int .i64 xS, .int .i64 xC, .int .i64 xA, .int .i64 xM] 59); omega) q) (Nat.le_trans (by have := nblk1 W (.cells #[.slice A1 n1 c1, .int .i64 xS, .int .i64 xC, .int .i64 xA, .int .i64 xM] 59); omega) (und_size q)))
      have CC := fun q : Und (W.alloc (.cells #[.slice A1 n1 c1, .int .i64 xS, .int .i64 xC, .int .i64 xA, .int .i64 xM] 59)) => und_same q (within_c xC 1 1000 _)
      have CS := fun q : Und (W.alloc (.cells #[.slice A1 n1 c1, .int .i64 xS, .int .i64 xC, .int .i64 xA, .int .i64 xM] 59)) => und_same q (within_c xS (-1000000000) 1000000000 _)
      have CL := fun q : Und (W.alloc (.cells #[.slice A1 n1 c1, .int .i64 xS, .int .i64 xC, .int .i64 xA, .int .i64 xM] 59)) => und_same q (within_c xA (-1000000) xM _)
      cases k1 : Pl.labelsOk xL
      · have HV := Lib.hid (NO.out (by unfold Pl.totQ Pl.totOk; dsimp only; rw [k1]; simp))
        clear NO HP HZ
        go_wp2
        refine wp_region_und (by kernel_rfl) (by kernel_rfl) ?_
        repeat (go_big_quiet_step ((first | first | (go_at_call 46; with_reducible exact CA _) | (go_at_call 33; first | (with_reducible exact CC _) | (with_reducible exact CS _) | (with_reducible exact CL _)))))
        refine wpQuiet_nil ?_
        intro X hX
        have hbx := Lib.hid (below_step HBL.out (below_step (below_new (Below.refl _ _) _) hX))
        go_wp2
        go_ret
        exact ⟨ret_bool HV.out.symm, hbx.out⟩
      cases k2 : Pl.isIn xC 1 1000
      · have HV := Lib.hid (NO.out (by unfold Pl.totQ Pl.totOk; dsimp only; rw [k1, k2]; simp))
        clear NO HP HZ
        go_wp2
        refine wp_region_und (by kernel_rfl) (by kernel_rfl) ?_
        repeat (go_big_quiet_step ((first | first | (go_at_call 46; with_reducible exact CA _) | (go_at_call 33; first | (with_reducible exact CC _) | (with_reducible exact CS _) | (with_reducible exact CL _)))))
        refine wpQuiet_nil ?_
        intro X hX
        have hbx := Lib.hid (below_step HBL.out (below_step (below_new (Below.refl _ _) _) hX))
        go_wp2
        go_ret
        exact ⟨ret_bool HV.out.symm, hbx.out⟩
      cases k3 : Pl.isIn xS (-1000000000) 1000000000
      · have HV := Lib.hid (NO.out (by unfold Pl.totQ Pl.totOk; dsimp only; rw [k1, k2, k3]; simp))
        clear NO HP HZ
        go_wp2
        refine wp_region_und (by kernel_rfl) (by kernel_rfl) ?_
        repeat (go_big_quiet_step ((first | first | (go_at_call 46; with_reducible exact CA _) | (go_at_call 33; first | (with_reducible exact CC _) | (with_reducible exact CS _) | (with_reducible exact CL _)))))
        refine wpQuiet_nil ?_
        intro X hX
        have hbx := Lib.hid (below_step HBL.out (below_step (below_new (Below.refl _ _) _) hX))
        go_wp2
        go_ret
        exact ⟨ret_bool HV.out.symm, hbx.out⟩
      cases k4 : Pl.isIn xA (-1000000) xM
      · have HV := Lib.hid (NO.out (by unfold Pl.totQ Pl.totOk; dsimp only; rw [k1, k2, k3, k4]; simp))
        clear NO HP HZ
        go_wp2
        refine wp_region_und (by kernel_rfl) (by kernel_rfl) ?_
        repeat (go_big_quiet_step ((first | first | (go_at_call 46; with_reducible exact CA _) | (go_at_call 33; first | (with_reducible exact CC _) | (with_reducible exact CS _) | (with_reducible exact CL _)))))
        refine wpQuiet_nil ?_
        intro X hX
        have hbx := Lib.hid (below_step HBL.out (below_step (below_new (Below.refl _ _) _) hX))
        go_wp2
        go_ret
        exact ⟨ret_bool HV.out.symm, hbx.out⟩
      by_cases k5 : 1000000 < xM
      · have k6 : decide (xM ≤ 1000000) = false := decide_eq_false (by omega)
        have k7 : decide (1000000 < xM) = true := decide_eq_true k5
        have HV := Lib.hid (NO.out (by unfold Pl.totQ Pl.totOk; dsimp only; rw [k1, k2, k3, k4, k6]; rfl))
        clear NO HP HZ
        go_wp2
        refine wp_region_und (by kernel_rfl) (by kernel_rfl) ?_
        repeat (go_big_quiet_step ((first | first | (go_at_call 46; with_reducible exact CA _) | (go_at_call 33; first | (with_reducible exact CC _) | (with_reducible exact CS _) | (with_reducible exact CL _)))))
        refine wpQuiet_nil ?_
        intro X hX
        have hbx := Lib.hid (below_step HBL.out (below_step (below_new (Below.refl _ _) _) hX))
        go_wp2
        go_ret
        exact ⟨ret_bool HV.out.symm, hbx.out⟩
      have k6 : decide (xM ≤ 1000000) = true := decide_eq_true (by omega)
      have k7 : decide (1000000 < xM) = false := decide_eq_false k5
      by_cases hk0 : k = 0
      · subst hk0
        clear q0
        simp only [Nat.zero_mul, Nat.add_zero] at d0 d1 d2 d3 d4
        have HN := Lib.hid (Pl.snocB HU.out (by rw [HP.out]; unfold Pl.totQ Pl.totOk; dsimp only; rw [k1, k2, k3, k4, k6]; rfl))
        clear NO HP HZ
        go_wp2
        refine wp_region_und (by kernel_rfl) (by kernel_rfl) ?_
        repeat (go_big_quiet_step ((first | first | (go_at_call 46; with_reducible exact CA _) | (go_at_call 33; first | (with_reducible exact CC _) | (with_reducible exact CS _) | (with_reducible exact CL _)))))
        refine wpQuiet_nil ?_
        intro X hX
        have hbx := Lib.hid (below_step HBL.out (below_step (below_new (Below.refl _ _) _) hX))
        go_wp2
        go_roundg (n - (0 + 1))
        case measure => omega
        case rel => exact ⟨hbx.out, 0 + 1, Nat.le_refl _, by omega, by go_num, HN.out⟩
      · obtain ⟨k, rfl⟩ : ∃ j, k = j + 1 := ⟨k - 1, by omega⟩
        rw [Nat.add_sub_cancel] at q0
        have hw1 : IntKind.i64.wrap (((k + 1 : Nat) : Int) - 1) = (k : Nat) := by rw [show ((k + 1 : Nat) : Int) - 1 = (k : Nat) by omega]; exact IntWalk.i64_in _ (by omega)
        have hk3 : (0 : Int) < ((k + 1 : Nat) : Int) := by omega
        have hk4 : (0 : Int) ≤ ((k : Nat) : Int) := by omega
        have hk5 : ((k : Nat) : Int) < (n : Nat) := by omega
        have CX := fun q : Und (W.alloc (.cells #[.slice A1 n1 c1, .int .i64 xS, .int .i64 xC, .int .i64 xA, .int .i64 xM] 59)) => und_call q (labelsText_c xL _ _ _ _ B ((HLX.out.alloc' (by omega) _).und (by have := nblk1 W (.cells #[.slice A1 n1 c1, .int .i64 xS, .int .i64 xC, .int .i64 xA, .int .i64 xM] 59); omega) q) (Nat.le_trans (by have := nblk1 W (.cells #[.slice A1 n1 c1, .int .i64 xS, .int .i64 xC, .int .i64 xA, .int .i64 xM] 59); omega) (und_size q)) k1)
        obtain ⟨tx, htx⟩ : ∃ t, Pl.labelsText xL = t := ⟨_, rfl⟩
        rw [htx] at CX
        have CZ := fun q : Und (W.alloc (.cells #[.slice A1 n1 c1, .int .i64 xS, .int .i64 xC, .int .i64 xA, .int .i64 xM] 59)) => und_call q (labelsText_c zL _ _ _ _ B ((HLZ.out.alloc' (by omega) _).und (by have := nblk1 W (.cells #[.slice A1 n1 c1, .int .i64 xS, .int .i64 xC, .int .i64 xA, .int .i64 xM] 59); omega) q) (Nat.le_trans (by have := nblk1 W (.cells #[.slice A1 n1 c1, .int .i64 xS, .int .i64 xC, .int .i64 xA, .int .i64 xM] 59); omega) (und_size q)) (HZ.out (by omega)))
        obtain ⟨tz, htz⟩ : ∃ t, Pl.labelsText zL = t := ⟨_, rfl⟩
        rw [htz] at CZ
        have HTX := Lib.hid htx
        have HTZ := Lib.hid htz
        clear htx htz
        cases kl : Pl.lessB tz tx
        · have kl' : Op.bytesLess tz.toList tx.toList = false := kl
          have HV := Lib.hid (NO.out (by unfold Pl.totQ Pl.totOk; dsimp only; rw [k1, k2, k3, k4, k6]; rw [HTZ.out, HTX.out, kl]; rfl))
          clear NO HP HZ
          go_wp2
          refine wp_region_und (by kernel_rfl) (by kernel_rfl) ?_
          repeat (go_big_quiet_step ((first | first | (go_at_call 46; with_reducible exact CA _) | (go_at_call 33; first | (with_reducible exact CC _) | (with_reducible exact CS _) | (with_reducible exact CL _)) | (go_at_call 52; first | (with_reducible exact CX _) | (with_reducible exact CZ _)))))
          refine wpQuiet_nil ?_
          intro X hX
          have hbx := Lib.hid (below_step HBL.out (below_step (below_new (Below.refl _ _) _) hX))
          go_wp2
          go_ret
          exact ⟨ret_bool HV.out.symm, hbx.out⟩
        · have kl' : Op.bytesLess tz.toList tx.toList = true := kl
          have HN := Lib.hid (Pl.snocB HU.out (by rw [HP.out]; unfold Pl.totQ Pl.totOk; dsimp only; rw [k1, k2, k3, k4, k6]; rw [HTZ.out, HTX.out, kl]; simp))
          clear NO HP HZ
          go_wp2
          refine wp_region_und (by kernel_rfl) (by kernel_rfl) ?_
          repeat (go_big_quiet_step ((first | first | (go_at_call 46; with_reducible exact CA _) | (go_at_call 33; first | (with_reducible exact CC _) | (with_reducible exact CS _) | (with_reducible exact CL _)) | (go_at_call 52; first | (with_reducible exact CX _) | (with_reducible exact CZ _)))))
          refine wpQuiet_nil ?_
          intro X hX
          have hbx := Lib.hid (below_step HBL.out (below_step (below_new (Below.refl _ _) _) hX))
          go_wp2
          go_roundg (n - (k + 1 + 1))
          case measure => omega
          case rel => exact ⟨hbx.out, k + 1 + 1, Nat.le_refl _, by omega, by go_num, HN.out⟩
    · have HF : Hid (Pl.totalsOk l = decide (n ≤ 40)) := by
        show _ = _
        unfold Pl.totalsOk
        rw [Pl.allB_yes (fun j hj => HU.out j (by rw [hlen.out] at hj; omega)), hlen.out]
        rfl
      obtain rfl : k = n := by omega
      go_wp2
      go_ret
      exact ⟨ret_bool (by rw [HF.out]; exact decide_eq_decide.2 (by omega)), HBL.out⟩
set_option maxRecDepth 100000 in
set_option maxHeartbeats 4000000 in
theorem GoodTotals_c (l : List Total) (A : Option Addr) (n c : Nat) (w : World) (B : Nat) (hl : Mm.SlAt rTotal w B l A n c) (hB : B ≤ w.heap.size) :
    Calls Try.prog 19 #[.slice A n c] w fun e w' => e = .returned (.bool (Pl.totalsOk l)) ∧ Below w.heap.size w w' := by
  have hlen : Hid (l.length = n) := hl.1
  have hn : n ≤ maxLen := Nat.le_trans hl.2.1 hl.2.2.1
  unfold maxLen at hn
  have HL := Lib.hid hl
  clear hl
  go_enter Try.func19, Try.ntmps19
  go_wp2
  go_loopg [7] n (fun g i wr => Below w.heap.size w wr ∧ ∃ k : Nat, n - k ≤ g ∧ k ≤ n ∧ i = .int .i64 k ∧ Hid (∀ j, j < k → Pl.totP l j = true))
  case atStart => exact ⟨Below.refl _ _, 0, Nat.le_refl _, Nat.zero_le _, rfl, fun j hj => absurd hj (Nat.not_lt_zero j)⟩
  case round =>
    obtain ⟨hbel, k, hgk, hk, rfl, HU⟩ := hrel
    obtain ⟨W, rfl⟩ : ∃ W : World, W = wr := ⟨_, rfl⟩
    have HLw := Lib.hid (HL.out.keep fun b hb' => hbel.block b (Nat.lt_of_lt_of_le hb' hB))
    have HBL := Lib.hid hbel
    have hsw := hbel.size
    clear hbel
    by_cases hlt : k < n
    · obtain ⟨x, b0, off, A1, n1, c1, hx, rfl, hbb, hlx, g1, g2, g3, g4, d0, d1, d2, d3, d4⟩ := rTotal_get HLw.out hlt
      obtain ⟨z, A2, n2, c2, hz, -, hlz, -, -, -, -, q0, -⟩ := rTotal_get' HLw.out (show k - 1 < n by omega)
      have HP : Hid (Pl.totP l k = Pl.totQ k x z) := by show _ = _; unfold Pl.totP; rw [Pl.totAt_of hx, Pl.totAt_of hz]
      have NO : Hid (Pl.totQ k x z = false → Pl.totalsOk l = false) := fun h => by
        unfold Pl.totalsOk; rw [Pl.allB_no (by rw [hlen.out]; exact hlt) (by rw [HP.out, h])]; rfl
      have HZ : Hid (k ≠ 0 → Pl.labelsOk z.Labels = true) := fun h0 => by
        have h1 := HU.out (k - 1) (by omega)
        unfold Pl.totP Pl.totQ at h1
        rw [Pl.totAt_of hz, Bool.and_eq_true] at h1
        exact Pl.totOk_lab h1.1
      clear hx hz
      obtain ⟨xL, xS, xC, xA, xM⟩ := x
      obtain ⟨zL, zS, zC, zA, zM⟩ := z
      dsimp only at hlx g1 g2 g3 g4 d0 d1 d2 d3 d4 hlz q0
      have HLX := Lib.hid hlx
      have HLZ := Lib.hid hlz
      clear hlx hlz
      have hlt' : (k : Int) < (n : Nat) := by omega
      have hlt2 : (0 : Int) ≤ (k : Nat) := by omega
      have CA := fun q : Und (W.alloc (.cells #[.slice A1 n1 c1, .int .i64 xS, .int .i64 xC, .int .i64 xA, .int .i64 xM] 59)) => und_call q (GoodLabels_c xL A1 n1 c1 _ B ((HLX.out.alloc' (by omega) _).und (by have := nblk1 W (.cells #[.slice A1 n1 c1, .int .i64 xS, .int .i64 xC, .int .i64 xA, .int .i64 xM] 59); omega) q) (Nat.le_trans (by have := nblk1 W (.cells #[.slice A1 n1 c1, .int .i64 xS, .int .i64 xC, .int .i64 xA, .int .i64 xM] 59); omega) (und_size q)))
      have CC := fun q : Und (W.alloc (.cells #[.slice A1 n1 c1, .int .i64 xS, .int .i64 xC, .int .i64 xA, .int .i64 xM] 59)) => und_same q (l1In_c xC 1 1000 _)
      have CS := fun q : Und (W.alloc (.cells #[.slice A1 n1 c1, .int .i64 xS, .int .i64 xC, .int .i64 xA, .int .i64 xM] 59)) => und_same q (l1In_c xS (-1000000000) 1000000000 _)
      have CL := fun q : Und (W.alloc (.cells #[.slice A1 n1 c1, .int .i64 xS, .int .i64 xC, .int .i64 xA, .int .i64 xM] 59)) => und_same q (l1In_c xA (-1000000) xM _)
      cases k1 : Pl.labelsOk xL
      · have HV := Lib.hid (NO.out (by unfold Pl.totQ Pl.totOk; dsimp only; rw [k1]; simp))
        clear NO HP HZ
        go_wp2
        refine wp_region_und (by kernel_rfl) (by kernel_rfl) ?_
        repeat (go_big_quiet_step ((first | first | (go_at_call 39; with_reducible exact CA _) | (go_at_call 37; first | (with_reducible exact CC _) | (with_reducible exact CS _) | (with_reducible exact CL _)))))
        refine wpQuiet_nil ?_
        intro X hX
        have hbx := Lib.hid (below_step HBL.out (below_step (below_new (Below.refl _ _) _) hX))
        go_wp2
        go_ret
        exact ⟨ret_bool HV.out.symm, hbx.out⟩
      cases k2 : Pl.isIn xC 1 1000
      · have HV := Lib.hid (NO.out (by unfold Pl.totQ Pl.totOk; dsimp only; rw [k1, k2]; simp))
        clear NO HP HZ
        go_wp2
        refine wp_region_und (by kernel_rfl) (by kernel_rfl) ?_
        repeat (go_big_quiet_step ((first | first | (go_at_call 39; with_reducible exact CA _) | (go_at_call 37; first | (with_reducible exact CC _) | (with_reducible exact CS _) | (with_reducible exact CL _)))))
        refine wpQuiet_nil ?_
        intro X hX
        have hbx := Lib.hid (below_step HBL.out (below_step (below_new (Below.refl _ _) _) hX))
        go_wp2
        go_ret
        exact ⟨ret_bool HV.out.symm, hbx.out⟩
      cases k3 : Pl.isIn xS (-1000000000) 1000000000
      · have HV := Lib.hid (NO.out (by unfold Pl.totQ Pl.totOk; dsimp only; rw [k1, k2, k3]; simp))
        clear NO HP HZ
        go_wp2
        refine wp_region_und (by kernel_rfl) (by kernel_rfl) ?_
        repeat (go_big_quiet_step ((first | first | (go_at_call 39; with_reducible exact CA _) | (go_at_call 37; first | (with_reducible exact CC _) | (with_reducible exact CS _) | (with_reducible exact CL _)))))
        refine wpQuiet_nil ?_
        intro X hX
        have hbx := Lib.hid (below_step HBL.out (below_step (below_new (Below.refl _ _) _) hX))
        go_wp2
        go_ret
        exact ⟨ret_bool HV.out.symm, hbx.out⟩
      cases k4 : Pl.isIn xA (-1000000) xM
      · have HV := Lib.hid (NO.out (by unfold Pl.totQ Pl.totOk; dsimp only; rw [k1, k2, k3, k4]; simp))
        clear NO HP HZ
        go_wp2
        refine wp_region_und (by kernel_rfl) (by kernel_rfl) ?_
        repeat (go_big_quiet_step ((first | first | (go_at_call 39; with_reducible exact CA _) | (go_at_call 37; first | (with_reducible exact CC _) | (with_reducible exact CS _) | (with_reducible exact CL _)))))
        refine wpQuiet_nil ?_
        intro X hX
        have hbx := Lib.hid (below_step HBL.out (below_step (below_new (Below.refl _ _) _) hX))
        go_wp2
        go_ret
        exact ⟨ret_bool HV.out.symm, hbx.out⟩
      by_cases k5 : 1000000 < xM
      · have k6 : decide (xM ≤ 1000000) = false := decide_eq_false (by omega)
        have k7 : decide (1000000 < xM) = true := decide_eq_true k5
        have HV := Lib.hid (NO.out (by unfold Pl.totQ Pl.totOk; dsimp only; rw [k1, k2, k3, k4, k6]; rfl))
        clear NO HP HZ
        go_wp2
        refine wp_region_und (by kernel_rfl) (by kernel_rfl) ?_
        repeat (go_big_quiet_step ((first | first | (go_at_call 39; with_reducible exact CA _) | (go_at_call 37; first | (with_reducible exact CC _) | (with_reducible exact CS _) | (with_reducible exact CL _)))))
        refine wpQuiet_nil ?_
        intro X hX
        have hbx := Lib.hid (below_step HBL.out (below_step (below_new (Below.refl _ _) _) hX))
        go_wp2
        go_ret
        exact ⟨ret_bool HV.out.symm, hbx.out⟩
      have k6 : decide (xM ≤ 1000000) = true := decide_eq_true (by omega)
      have k7 : decide (1000000 < xM) = false := decide_eq_false k5
      by_cases hk0 : k = 0
      · subst hk0
        clear q0
        simp only [Nat.zero_mul, Nat.add_zero] at d0 d1 d2 d3 d4
        have HN := Lib.hid (Pl.snocB HU.out (by rw [HP.out]; unfold Pl.totQ Pl.totOk; dsimp only; rw [k1, k2, k3, k4, k6]; rfl))
        clear NO HP HZ
        go_wp2
        refine wp_region_und (by kernel_rfl) (by kernel_rfl) ?_
        repeat (go_big_quiet_step ((first | first | (go_at_call 39; with_reducible exact CA _) | (go_at_call 37; first | (with_reducible exact CC _) | (with_reducible exact CS _) | (with_reducible exact CL _)))))
        refine wpQuiet_nil ?_
        intro X hX
        have hbx := Lib.hid (below_step HBL.out (below_step (below_new (Below.refl _ _) _) hX))
        go_wp2
        go_roundg (n - (0 + 1))
        case measure => omega
        case rel => exact ⟨hbx.out, 0 + 1, Nat.le_refl _, by omega, by go_num, HN.out⟩
      · obtain ⟨k, rfl⟩ : ∃ j, k = j + 1 := ⟨k - 1, by omega⟩
        rw [Nat.add_sub_cancel] at q0
        have hw1 : IntKind.i64.wrap (((k + 1 : Nat) : Int) - 1) = (k : Nat) := by rw [show ((k + 1 : Nat) : Int) - 1 = (k : Nat) by omega]; exact IntWalk.i64_in _ (by omega)
        have hk3 : (0 : Int) < ((k + 1 : Nat) : Int) := by omega
        have hk4 : (0 : Int) ≤ ((k : Nat) : Int) := by omega
        have hk5 : ((k : Nat) : Int) < (n : Nat) := by omega
        have CX := fun q : Und (W.alloc (.cells #[.slice A1 n1 c1, .int .i64 xS, .int .i64 xC, .int .i64 xA, .int .i64 xM] 59)) => und_call q (l3Text_c xL _ _ _ _ B ((HLX.out.alloc' (by omega) _).und (by have := nblk1 W (.cells #[.slice A1 n1 c1, .int .i64 xS, .int .i64 xC, .int .i64 xA, .int .i64 xM] 59); omega) q) (Nat.le_trans (by have := nblk1 W (.cells #[.slice A1 n1 c1, .int .i64 xS, .int .i64 xC, .int .i64 xA, .int .i64 xM] 59); omega) (und_size q)) k1)
        obtain ⟨tx, htx⟩ : ∃ t, Pl.labelsText xL = t := ⟨_, rfl⟩
        rw [htx] at CX
        have CZ := fun q : Und (W.alloc (.cells #[.slice A1 n1 c1, .int .i64 xS, .int .i64 xC, .int .i64 xA, .int .i64 xM] 59)) => und_call q (l3Text_c zL _ _ _ _ B ((HLZ.out.alloc' (by omega) _).und (by have := nblk1 W (.cells #[.slice A1 n1 c1, .int .i64 xS, .int .i64 xC, .int .i64 xA, .int .i64 xM] 59); omega) q) (Nat.le_trans (by have := nblk1 W (.cells #[.slice A1 n1 c1, .int .i64 xS, .int .i64 xC, .int .i64 xA, .int .i64 xM] 59); omega) (und_size q)) (HZ.out (by omega)))
        obtain ⟨tz, htz⟩ : ∃ t, Pl.labelsText zL = t := ⟨_, rfl⟩
        rw [htz] at CZ
        have HTX := Lib.hid htx
        have HTZ := Lib.hid htz
        clear htx htz
        cases kl : Pl.lessB tz tx
        · have kl' : Op.bytesLess tz.toList tx.toList = false := kl
          have HV := Lib.hid (NO.out (by unfold Pl.totQ Pl.totOk; dsimp only; rw [k1, k2, k3, k4, k6]; rw [HTZ.out, HTX.out, kl]; rfl))
          clear NO HP HZ
          go_wp2
          refine wp_region_und (by kernel_rfl) (by kernel_rfl) ?_
          repeat (go_big_quiet_step ((first | first | (go_at_call 39; with_reducible exact CA _) | (go_at_call 37; first | (with_reducible exact CC _) | (with_reducible exact CS _) | (with_reducible exact CL _)) | (go_at_call 40; first | (with_reducible exact CX _) | (with_reducible exact CZ _)))))
          refine wpQuiet_nil ?_
          intro X hX
          have hbx := Lib.hid (below_step HBL.out (below_step (below_new (Below.refl _ _) _) hX))
          go_wp2
          go_ret
          exact ⟨ret_bool HV.out.symm, hbx.out⟩
        · have kl' : Op.bytesLess tz.toList tx.toList = true := kl
          have HN := Lib.hid (Pl.snocB HU.out (by rw [HP.out]; unfold Pl.totQ Pl.totOk; dsimp only; rw [k1, k2, k3, k4, k6]; rw [HTZ.out, HTX.out, kl]; simp))
          clear NO HP HZ
          go_wp2
          refine wp_region_und (by kernel_rfl) (by kernel_rfl) ?_
          repeat (go_big_quiet_step ((first | first | (go_at_call 39; with_reducible exact CA _) | (go_at_call 37; first | (with_reducible exact CC _) | (with_reducible exact CS _) | (with_reducible exact CL _)) | (go_at_call 40; first | (with_reducible exact CX _) | (with_reducible exact CZ _)))))
          refine wpQuiet_nil ?_
          intro X hX
          have hbx := Lib.hid (below_step HBL.out (below_step (below_new (Below.refl _ _) _) hX))
          go_wp2
          go_roundg (n - (k + 1 + 1))
          case measure => omega
          case rel => exact ⟨hbx.out, k + 1 + 1, Nat.le_refl _, by omega, by go_num, HN.out⟩
    · have HF : Hid (Pl.totalsOk l = decide (n ≤ 40)) := by
        show _ = _
        unfold Pl.totalsOk
        rw [Pl.allB_yes (fun j hj => HU.out j (by rw [hlen.out] at hj; omega)), hlen.out]
        rfl
      obtain rfl : k = n := by omega
      go_wp2
      go_ret
      exact ⟨ret_bool (by rw [HF.out]; exact decide_eq_decide.2 (by omega)), HBL.out⟩
end Go.Proofs.Ytnppcdiicnofpab

/-
  Contracts: slices.Insert with one element, at totals. No conditions beyond those named.
-/
namespace Go.Proofs.Ytnppcdiicnofpab
open Go.RowKit
theorem Mm.Chg.grown {g : Nat} {w w' : World} (h : Mm.Chg [g] w w') : w.grownBy w' (some g) := ⟨h.os, h.tape, h.output, h.size, fun k hk hn => h.block k hk (fun hm => hn (by rw [List.mem_singleton.1 hm]))⟩
theorem Mm.Chg.grown0 {row : Option Nat} {w w' : World} (h : Below w.heap.size w w') : w.grownBy w' row := ⟨h.os, h.tape, h.output, h.size, fun k hk _ => h.block k hk⟩
theorem Mm.zeroCells_len (z : Array Value) (m : Nat) : (Builtin.zeroCells z m).size = m * z.size := by simp [Builtin.zeroCells]
theorem Try.infoTot : (Try.prog.info? 59).map (fun i => (i.zero, i.size, i.bytes)) = some (some (.agg #[.slice none 0 0, .int .i64 0, .int .i64 0, .int .i64 0, .int .i64 0]), 5, 56) := by kernel_rfl
set_option maxRecDepth 100000 in
set_option maxHeartbeats 4000000 in
theorem insTotal_c (cells ct : List Value) (n k vb : Nat) (A : Option Addr) (c : Nat) (w : World) (ho : w.ownsRow 0 59 5 (.slice A n c) n cells) (hk : k ≤ n) (hn : n ≤ 1000) (hct : ct.length = 5) (hvs : ∀ j u, ct[j]? = some u → w.cell? ⟨vb, j, none⟩ = some u) (h1 : ∀ u ∈ ct, u.oneCell' = true) (h1c : ∀ u ∈ cells, u.oneCell' = true)
    (hvb : ∀ g, A = some ⟨g, 0, none⟩ → vb ≠ g) (hsh : w.shape? vb = some (59, 5)) (hfz : ∀ j, w.frozen? ⟨vb, j, none⟩ = false) (hvw : vb < w.heap.size) :
    Calls Try.prog 55 #[.slice A n c, .int .i64 k, .slice (some ⟨vb, 0, none⟩) 1 1] w fun e w' => ∃ A' n' c', e = .returned (.slice A' n' c') ∧ w'.ownsRow 0 59 5 (.slice A' n' c') (n + 1) (cells.take (k * 5) ++ (ct ++ cells.drop (k * 5))) ∧ w.grownBy w' (Value.slice A n c).ownBlock ∧ ((Value.slice A' n' c').ownBlock = (Value.slice A n c).ownBlock ∨ (Value.slice A' n' c').ownBlock = some w.heap.size) := by
  obtain ⟨i0, hi, hz0, hzs, hzb⟩ := info_parts Try.infoTot
  have hcl := ho.1
  by_cases hkn : k = n
  · subst hkn
    have e0 : cells.take (k * 5) ++ (ct ++ cells.drop (k * 5)) = cells ++ ct := by rw [List.take_of_length_le (by omega), List.drop_of_length_le (by omega), List.append_nil]
    have E0 := Lib.hid e0
    clear e0 hcl
    have HO := Lib.hid ho
    rcases ho.2 with ⟨hv, hn0⟩ | ⟨g, cap, cur, hv, _, hg, hnc, hcm, hcs, htake⟩
    · injection hv with e1 e2 e3
      subst e1 e3
      subst hn0
      clear ho
      go_enter Try.func55, Try.ntmps55
      go_wp2_with (at_builtin; refine wpList_append_lies _ (by rfl) _ _ _ (by rfl) 0 59 i0 _ 5 56 Try.underlying27 hi hz0 hzs hzb rfl (by omega) _ 0 cells (by rfl) HO.out ⟨vb, 0, none⟩ 1 1 ct (by rfl) (by omega) (fun j u hj => by rw [Mm.add0]; exact hvs j u hj) h1 (by omega) (by unfold maxLen; omega) (by omega) (Nat.zero_le _) _ rfl ?_; intro gg cap w3 hown hgrow hat hlt)
      go_ret
      exact ⟨_, _, _, rfl, E0.out ▸ hown, hgrow, hat.elim (fun h => .inl (by rw [h]; rfl)) (fun h => .inr (by rw [h]; rfl))⟩
    · injection hv with e1 e2 e3
      subst e1 e3
      clear ho
      unfold maxLen at hcm
      by_cases hcn : c = k
      · subst hcn
        go_enter Try.func55, Try.ntmps55
        go_wp2_with (at_builtin; refine wpList_append_lies _ (by rfl) _ _ _ (by rfl) 0 59 i0 _ 5 56 Try.underlying27 hi hz0 hzs hzb rfl (by omega) _ c cells (by rfl) HO.out ⟨vb, 0, none⟩ 1 1 ct (by rfl) (by omega) (fun j u hj => by rw [Mm.add0]; exact hvs j u hj) h1 (by omega) (by unfold maxLen; omega) (by omega) (Nat.zero_le _) _ rfl ?_; intro gg cap w3 hown hgrow hat hlt)
        go_ret
        exact ⟨_, _, _, rfl, E0.out ▸ hown, hgrow, hat.elim (fun h => .inl (by rw [h]; rfl)) (fun h => .inr (by rw [h]; rfl))⟩
      · go_enter Try.func55, Try.ntmps55
        go_wp2_with (at_builtin; refine wpList_append_lies _ (by rfl) _ _ _ (by rfl) 0 59 i0 _ 5 56 Try.underlying27 hi hz0 hzs hzb rfl (by omega) _ k cells (by rfl) HO.out ⟨vb, 0, none⟩ 1 1 ct (by rfl) (by omega) (fun j u hj => by rw [Mm.add0]; exact hvs j u hj) h1 (by omega) (by unfold maxLen; omega) (by omega) (Nat.zero_le _) _ rfl ?_; intro gg cap w3 hown hgrow hat hlt)
        go_ret
        exact ⟨_, _, _, rfl, E0.out ▸ hown, hgrow, hat.elim (fun h => .inl (by rw [h]; rfl)) (fun h => .inr (by rw [h]; rfl))⟩
  · have hkl : k < n := by omega
    rcases ho.2 with ⟨hv, hn0⟩ | ⟨g, cap, cur, hv, _, hg, hnc, hcm, hcs, htake⟩
    · omega
    injection hv with e1 e2 e3
    subst e1 e3
    have hBg : Mm.Blk w g 59 cur.toList := by unfold Mm.Blk; rw [Array.toArray_toList]; exact hg
    have hcsl : cur.toList.length = c * 5 := by simpa using hcs
    have hne := hvb g rfl
    have hcc : ∀ j u, cells[j]? = some u → w.cell? ⟨g, j, none⟩ = some u := fun j u hj => hBg.cell (by
      have : (cur.toList.take (n * 5))[j]? = some u := by rw [htake]; exact hj
      rw [List.getElem?_take] at this
      split at this
      · exact this
      · cases this)
    have hsp : ∀ j, j < c * 5 → (w.cell? ⟨g, j, none⟩).isSome = true := fun j hj => by
      rw [hBg.cell (List.getElem?_eq_getElem (by rw [hcsl]; exact hj))]; rfl
    have hfz2 : ∀ j, w.frozen? ⟨g, j, none⟩ = false := fun j => hBg.frozen _
    have hdl : (cells.drop (k * 5)).length = (n - k) * 5 := by rw [List.length_drop, hcl]; omega
    unfold maxLen at hcm
    have hw1 : IntKind.i64.wrap ((k : Int) + 1) = (k : Int) + 1 := IntWalk.i64_in _ (by omega)
    have hw2 : IntKind.i64.wrap ((n : Int) + 1) = (n : Int) + 1 := IntWalk.i64_in _ (by omega)
    have hz2 : ¬ ((k : Int) = (n : Int)) := by omega
    have hb1 : (0 : Int) ≤ (k : Int) + 1 := by omega
    have hb5 : ((k : Int) + 1).toNat = k + 1 := by omega
    have hb6 : ((n : Int) + 1).toNat = n + 1 := by omega
    by_cases hroom : n + 1 ≤ c
    · have hb2 : ¬ (c = k + 1) := by omega
      have hb4 : ¬ (c = k) := by omega
      have hb3 : (k : Int) ≤ (n : Int) + 1 := by omega
      have hov : ∀ o lb cb, (callFunc 66 #[.slice (some ⟨vb, 0, none⟩) 1 1, .slice (some ⟨g, o, none⟩) lb cb]).run Try.prog w = .ok (.value (.bool false)) w := fun o lb cb => by
        rw [run_callFunc_extern Try.func66 (by kernel_rfl) (by kernel_rfl) (by kernel_rfl) (e := Extern.SlicesOverlaps.overlaps #[27, 27] #[4]) (by kernel_rfl),
          Lib.run_overlaps_apart w 27 4 59 Try.underlying27 5 Try.sizeOf59 ⟨vb, 0, none⟩ ⟨g, o, none⟩ 1 1 lb cb hne _ _ _ _ hsh (Mm.shape_blk hBg) (by omega) (hfz _) (hfz _)]
        rfl
      have HBG := Lib.hid hBg
      clear ho hg hBg
      go_enter Try.func55, Try.ntmps55
      go_wp2_with (simp only [hov])
      have hsz : (Try.prog.info? 59).map (·.size) = some 5 := by rw [hi]; exact congrArg some hzs
      have hmin : Nat.min (n + 1 - k) (n - k) = n - k := by simp only [Nat.min_def]; split <;> omega
      have hmin2 : Nat.min 1 (n + 1 - k) = 1 := by simp only [Nat.min_def]; split <;> omega
      have hcp1 : ∀ ty dc sc, (Builtin.copy_ #[27, 27] ty #[.slice (some ⟨g, (k + 1) * 5, none⟩) (n - k) dc, .slice (some ⟨g, k * 5, none⟩) (n + 1 - k) sc]).run Try.prog w.drew = .ok (goInt (Nat.min (n + 1 - k) (n - k))) (w.drew.setCells g ((k + 1) * 5) (cells.drop (k * 5))) := fun ty dc sc =>
        Mm.run_copy_k w.drew _ _ ty 59 5 g ((k + 1) * 5) (n - k) dc ⟨g, k * 5, none⟩ (n + 1 - k) sc (cells.drop (k * 5)) Try.underlying27 hsz (by rw [hdl, hmin])
          (fun j v hj => by rw [Addr.add_lit]; exact hcc _ v (by rwa [List.getElem?_drop] at hj))
          (fun j hj => hsp _ (by rw [hdl] at hj; omega)) (fun j hj => hfz2 _) (fun v hv => h1c v (List.mem_of_mem_drop hv))
      obtain ⟨W1, hW1⟩ : ∃ W1, W1 = w.drew.setCells g ((k + 1) * 5) (cells.drop (k * 5)) := ⟨_, rfl⟩
      have hsp1 : ∀ j, j < c * 5 → (W1.cell? ⟨g, j, none⟩).isSome = true := fun j hj => by
        rw [hW1]
        exact isSome_setCells g (cells.drop (k * 5)) ((k + 1) * 5) w.drew (fun j hj => hsp ((k + 1) * 5 + j) (by rw [hdl] at hj; omega)) _ (hsp j hj)
      have hcp2 : ∀ (W : World), (∀ x, W.cell? x = W1.cell? x) → (∀ x, W.frozen? x = W1.frozen? x) → ∀ ty dc, (Builtin.copy_ #[27, 27] ty #[.slice (some ⟨g, k * 5, none⟩) (n + 1 - k) dc, .slice (some ⟨vb, 0, none⟩) 1 1]).run Try.prog W = .ok (goInt (Nat.min 1 (n + 1 - k))) (W.setCells g (k * 5) ct) := fun W hWc hWf ty dc =>
        Mm.run_copy_k (P := Try.prog) W 27 27 ty 59 5 g (k * 5) (n + 1 - k) dc ⟨vb, 0, none⟩ 1 1 ct Try.underlying27 hsz (by rw [hct, hmin2])
          (fun j v hj => by
            rw [Mm.add0, hWc, hW1, World.cell?_setCells_out g _ _ _ _ (fun h _ => absurd h hne)]
            exact hvs j v hj)
          (fun j hj => by rw [hWc]; exact hsp1 _ (by omega)) (fun j hj => by rw [hWf, hW1, World.frozen?_setCells]; exact hfz2 _) h1
      rw [← hW1] at hcp1
      have HW1 := Lib.hid hW1
      clear hW1
      go_region_law (refine step_copy_runI rfl _ _ 27 27 rfl (.slice (some ⟨g, (k + 1) * 5, none⟩) (n - k) (c - (k + 1))) (.slice (some ⟨g, k * 5, none⟩) (n + 1 - k) (c - k)) (by simp [Act.eval, Act.put]) (by simp [Act.eval, Act.put]) (hcp1 _ _ _) ?_)
      go_wp2_with (at_builtin; refine wpList_copy_runI _ rfl _ _ 27 27 rfl _ _ rfl rfl (hcp2 _ (fun _ => rfl) (fun _ => rfl) _ _) ?_)
      go_ret
      have hW1 := HW1.out
      subst hW1
      have hd : Mm.Blk w.drew g 59 cur.toList := HBG.out
      have hb2 := Mm.setCells_blk ct _ (k * 5) _ (Mm.setCells_blk (cells.drop (k * 5)) _ ((k + 1) * 5) _ hd)
      refine ⟨_, _, _, rfl, ⟨?_, .inr ⟨g, c, _, rfl, Nat.zero_le _, hb2, hroom, by unfold maxLen; omega, ?_, ?_⟩⟩, ?_, .inl rfl⟩
      · rw [List.length_append, List.length_append, List.length_take, hdl, hct, hcl]; omega
      · rw [List.size_toArray, Mm.setList_len, Mm.setList_len]; exact hcsl
      · have := Mm.ins_rows (cur := cur.toList) (cells := cells) (ct := ct) (N := n * 5) (K := k * 5) (S := 5) htake hcl (by omega) hct (by rw [hcsl]; omega)
        rw [show (k + 1) * 5 = k * 5 + 5 by omega, show (n + 1) * 5 = n * 5 + 5 by omega]
        rw [List.append_assoc] at this
        exact this
      · exact Mm.Chg.grown ((Mm.Chg.of_below (Below.refl w.heap.size w).drew).trans ((Mm.setCells_chg g _ _ _).trans (Mm.setCells_chg g _ _ _)))
    · have hcn : c = n := by omega
      subst hcn
      have hsz : (Try.prog.info? 59).map (·.size) = some 5 := by rw [hi]; exact congrArg some hzs
      have hw3 : IntKind.i64.wrap ((c : Int) + 1 - (k : Int)) = (c : Int) + 1 - (k : Int) := IntWalk.i64_in _ (by omega)
      have hold : (Builtin.firstCells i0.size k (.slice (some ⟨g, 0, none⟩) k c)).run Try.prog w.drew = .ok (cells.take (k * 5)).toArray w.drew := by
        rw [hzs]
        exact run_firstCells_some w.drew 5 k ⟨g, 0, none⟩ k c (cells.take (k * 5)) (by rw [List.length_take, hcl]; omega) (fun j v hj => by
          rw [List.getElem?_take] at hj
          split at hj
          · rw [Mm.add0]; exact hcc j v hj
          · cases hj)
      have hik : ((c + 1 - k : Nat) : Int) = (c : Int) + 1 - (k : Int) := by omega
      have hkk : k + (c + 1 - k) = c + 1 := by omega
      obtain ⟨G, hG⟩ : ∃ G, G = grownCap w (c + 1) c 59 := ⟨_, rfl⟩
      obtain ⟨ROW, hROW⟩ : ∃ ROW : Array Value, ROW = (cells.take (k * 5)).toArray ++ Builtin.zeroCells (Value.agg #[.slice none 0 0, .int .i64 0, .int .i64 0, .int .i64 0, .int .i64 0]).cells (c + 1 - k) ++ Builtin.zeroCells (Value.agg #[.slice none 0 0, .int .i64 0, .int .i64 0, .int .i64 0, .int .i64 0]).cells (G - (c + 1)) := ⟨_, rfl⟩
      have hrz : ∀ ty, (Builtin.append_ #[27, 3] ty #[.slice (some ⟨g, 0, none⟩) k c, .int .i64 ((c : Int) + 1 - (k : Int))]).run Try.prog w = .ok (.slice (some ⟨w.heap.size, 0, none⟩) (c + 1) G) (w.drew.alloc (.cells ROW 59)) := fun ty => by
        have h := Lib.run_append_grow_zeros w 27 3 ty 59 i0 _ .i64 .i64 Try.underlying27 Try.underlying3 hi hz0 (some ⟨g, 0, none⟩) k c (cells.take (k * 5)) hold (c + 1 - k) (by omega) (by omega) (by omega) (by omega) (by rw [hzb]; omega) (by rw [hzb, hkk]; exact growslice_fits (by omega) (by omega))
        rw [hik, hkk] at h
        rw [hG, hROW, hG]
        exact h
      have hGn : c + 1 ≤ G := by rw [hG]; exact grownCap_ge w _ _ _
      have hGm : G ≤ maxLen := by rw [hG]; exact grownCap_le_maxLen w (c + 1) c 59 (by unfold maxLen; omega)
      have hRs : ROW.size = G * 5 := by
        rw [hROW]
        simp only [Array.size_append, List.size_toArray, Mm.zeroCells_len, List.length_take, hcl]
        show min (k * 5) (c * 5) + (c + 1 - k) * 5 + (G - (c + 1)) * 5 = _
        omega
      have hRt : ROW.toList.take (k * 5) = cells.take (k * 5) := by
        rw [hROW, Array.append_assoc, Array.toList_append, List.take_left' (by rw [List.length_take, hcl]; omega)]
      clear hG hROW hik hkk hold
      unfold maxLen at hGm
      obtain ⟨W1, hW1⟩ : ∃ W1, W1 = w.drew.alloc (.cells ROW 59) := ⟨_, rfl⟩
      have hgw : g < w.heap.size := hBg.lt
      have hB1 : Mm.Blk W1 w.heap.size 59 ROW.toList := by
        have := Mm.Blk.new w.drew 59 ROW.toList
        rw [Array.toArray_toList] at this
        rw [hW1]
        exact this
      have hN : ∀ j, j < G * 5 → (W1.cell? ⟨w.heap.size, j, none⟩).isSome = true := fun j hj => by
        rw [hB1.cell (List.getElem?_eq_getElem (by rw [Array.length_toList, hRs]; exact hj))]; rfl
      have hNf : ∀ j, W1.frozen? ⟨w.heap.size, j, none⟩ = false := fun j => hB1.frozen _
      have hbl : Below w.heap.size w W1 := by rw [hW1]; exact (Below.refl _ _).drew.alloc (by exact Nat.le_refl _) _
      have hOc : ∀ b j v, b < w.heap.size → w.cell? ⟨b, j, none⟩ = some v → W1.cell? ⟨b, j, none⟩ = some v := fun b j v hb h => (hbl.cell hb).trans h
      have hmin1 : Nat.min 1 (c + 1 - k) = 1 := by simp only [Nat.min_def]; split <;> omega
      have hmin2 : Nat.min (c - k) (c - k) = c - k := Nat.min_self _
      have hcpA : ∀ (W : World), (∀ x, W.cell? x = W1.cell? x) → (∀ x, W.frozen? x = W1.frozen? x) → ∀ ty dc, (Builtin.copy_ #[27, 27] ty #[.slice (some ⟨w.heap.size, k * 5, none⟩) (c + 1 - k) dc, .slice (some ⟨vb, 0, none⟩) 1 1]).run Try.prog W = .ok (goInt (Nat.min 1 (c + 1 - k))) (W.setCells w.heap.size (k * 5) ct) := fun W hWc hWf ty dc =>
        Mm.run_copy_k (P := Try.prog) W 27 27 ty 59 5 w.heap.size (k * 5) (c + 1 - k) dc ⟨vb, 0, none⟩ 1 1 ct Try.underlying27 hsz (by rw [hct, hmin1])
          (fun j v hj => by rw [Mm.add0, hWc]; exact hOc _ _ v hvw (hvs j v hj))
          (fun j hj => by rw [hWc]; exact hN _ (by omega)) (fun j hj => by rw [hWf]; exact hNf _) h1
      have hcpB : ∀ (W : World), (∀ x, W.cell? x = (W1.setCells w.heap.size (k * 5) ct).cell? x) → (∀ x, W.frozen? x = (W1.setCells w.heap.size (k * 5) ct).frozen? x) → ∀ ty dc sc, (Builtin.copy_ #[27, 27] ty #[.slice (some ⟨w.heap.size, (k + 1) * 5, none⟩) (c - k) dc, .slice (some ⟨g, k * 5, none⟩) (c - k) sc]).run Try.prog W = .ok (goInt (Nat.min (c - k) (c - k))) (W.setCells w.heap.size ((k + 1) * 5) (cells.drop (k * 5))) := fun W hWc hWf ty dc sc =>
        Mm.run_copy_k (P := Try.prog) W 27 27 ty 59 5 w.heap.size ((k + 1) * 5) (c - k) dc ⟨g, k * 5, none⟩ (c - k) sc (cells.drop (k * 5)) Try.underlying27 hsz (by rw [hdl, hmin2])
          (fun j v hj => by
            rw [Addr.add_lit, hWc, World.cell?_setCells_out _ _ _ _ _ (fun h _ => absurd h (Nat.ne_of_lt hgw))]
            exact hOc _ _ v hgw (hcc _ v (by rwa [List.getElem?_drop] at hj)))
          (fun j hj => by rw [hWc]; exact isSome_setCells _ _ _ _ (fun t ht => hN (k * 5 + t) (by omega)) _ (hN ((k + 1) * 5 + j) (by rw [hdl] at hj; omega)))
          (fun j hj => by rw [hWf, World.frozen?_setCells]; exact hNf _) (fun v hv => h1c v (List.mem_of_mem_drop hv))
      have HW1 := Lib.hid (And.intro hW1 hB1)
      have HBL := Lib.hid hbl
      subst hW1
      have hE1 : ∀ x, ((w.alloc (.cells ROW 59)).drew).cell? x = (w.drew.alloc (.cells ROW 59)).cell? x := fun x => rfl
      have hE2 : ∀ x, ((w.alloc (.cells ROW 59)).drew).frozen? x = (w.drew.alloc (.cells ROW 59)).frozen? x := fun x => rfl
      have hF1 : ∀ x, (((w.alloc (.cells ROW 59)).drew.setCells w.heap.size (k * 5) ct).drew).cell? x = ((w.drew.alloc (.cells ROW 59)).setCells w.heap.size (k * 5) ct).cell? x := fun x => rfl
      have hF2 : ∀ x, (((w.alloc (.cells ROW 59)).drew.setCells w.heap.size (k * 5) ct).drew).frozen? x = ((w.drew.alloc (.cells ROW 59)).setCells w.heap.size (k * 5) ct).frozen? x := fun x => rfl
      have hGi : ¬ (G = k) := by omega
      have hGim : ¬ (G = k + 1) := by omega
      have hci : ¬ (c = k) := by omega
      clear ho hg hBg hbl hN hNf hOc
      go_enter Try.func55, Try.ntmps55
      go_wp2_with (first
        | (at_builtin; refine Lib.wpList_append_run _ rfl _ _ _ _ rfl _ _ rfl rfl _ _ (hrz _) ?_)
        | (at_builtin; refine wpList_copy_runI _ rfl _ _ 27 27 rfl _ _ rfl rfl (hcpA _ hE1 hE2 _ _) ?_))
      go_region_law (refine step_copy_runI rfl _ _ 27 27 rfl (.slice (some ⟨w.heap.size, (k + 1) * 5, none⟩) (c - k) (G - (k + 1))) (.slice (some ⟨g, k * 5, none⟩) (c - k) (c - k)) (by simp [Act.eval, Act.put]) (by simp [Act.eval, Act.put]) (hcpB _ hF1 hF2 3 (G - (k + 1)) (c - k)) ?_)
      go_wp2
      go_ret
      have hd : Mm.Blk (w.alloc (.cells ROW 59)).drew w.heap.size 59 ROW.toList := HW1.out.2
      have hb1' : Mm.Blk (((w.alloc (.cells ROW 59)).drew.setCells w.heap.size (k * 5) ct).drew) w.heap.size 59 (Mm.setList ROW.toList (k * 5) ct) := Mm.setCells_blk ct _ (k * 5) _ hd
      have hb2' := Mm.setCells_blk (cells.drop (k * 5)) _ ((k + 1) * 5) _ hb1'
      refine ⟨_, _, _, rfl, ⟨?_, .inr ⟨w.heap.size, G, _, rfl, Nat.zero_le _, hb2', hGn, by unfold maxLen; omega, ?_, ?_⟩⟩, ?_, .inr rfl⟩
      · rw [List.length_append, List.length_append, List.length_take, hdl, hct, hcl]; omega
      · rw [List.size_toArray, Mm.setList_len, Mm.setList_len, Array.length_toList]; exact hRs
      · have := Mm.ins_rows' (cur := ROW.toList) (cells := cells) (ct := ct) (N := c * 5) (K := k * 5) (S := 5) hRt hcl (by omega) hct (by rw [Array.length_toList, hRs]; omega)
        rw [show (k + 1) * 5 = k * 5 + 5 by omega, show (c + 1) * 5 = c * 5 + 5 by omega]
        rw [List.append_assoc] at this
        exact this
      · have q1 : Below w.heap.size w (w.alloc (.cells ROW 59)).drew := (below_new (Below.refl _ _) _).drew
        have q2 := Mm.Below.chg q1 (Mm.setCells_chg w.heap.size ct _ (k * 5)) q1.size (fun b hb => by rw [List.mem_singleton.1 hb]; exact Nat.le_refl _)
        have q3 := Mm.Below.chg q2.drew (Mm.setCells_chg w.heap.size (cells.drop (k * 5)) _ ((k + 1) * 5)) q2.drew.size (fun b hb => by rw [List.mem_singleton.1 hb]; exact Nat.le_refl _)
        exact Mm.Chg.grown0 q3
end Go.Proofs.Ytnppcdiicnofpab

/-
  Contracts: strings.Compare; the comparison of a total with a text; slices.BinarySearchFunc at totals. No conditions beyond those named.
-/
namespace Go.Proofs.Ytnppcdiicnofpab
open Go.RowKit
attribute [local go_sem] und_cell World.cell?_alloc_some
set_option maxRecDepth 100000 in
theorem compare_c (a b : ByteArray) (w : World) : Calls Try.prog 54 #[.string a, .string b] w fun e w' => e = .returned (.int .i64 (Lib.compareBytes a.data.toList b.data.toList)) ∧ w = w' := by
  have h1 : Calls Try.prog 65 #[.string a, .string b] w fun e w' => e = .returned (.int .i64 (Lib.compareBytes a.data.toList b.data.toList)) ∧ w = w' := by
    go_enter Try.func65, Try.ntmps65
    go_wp2
    rw [run_callFunc_extern Try.func75 (by kernel_rfl) (by kernel_rfl) (by kernel_rfl) (e := Extern.BytealgCompare.compare) (by kernel_rfl), Lib.run_compareString]
    simp only [Result.andThen]
    rw [Oper.upon_value]
    go_wp2
    go_ret
    exact ⟨rfl, rfl⟩
  go_enter Try.func54, Try.ntmps54
  go_wp2_with (go_at_call 65; refine h1.mono ?_; rintro e w' ⟨rfl, rfl⟩)
  go_ret
  exact ⟨rfl, rfl⟩
theorem combCmp_c (x : Total) (s : ByteArray) (A : Option Addr) (n c : Nat) (w : World) (B : Nat) (hl : Mm.SlAt rLabel w B x.Labels A n c) (hB : B ≤ w.heap.size) (hok : Pl.labelsOk x.Labels = true) :
    Calls Try.prog 53 #[.agg #[.slice A n c, .int .i64 x.Sum, .int .i64 x.Count, .int .i64 x.Least, .int .i64 x.Most], .string s] w fun e w' => e = .returned (.int .i64 (Lib.compareBytes (Pl.txt x).data.toList s.data.toList)) ∧ Below w.heap.size w w' := by
  have hl1 := hl.alloc' hB (.cells #[.slice A n c, .int .i64 x.Sum, .int .i64 x.Count, .int .i64 x.Least, .int .i64 x.Most] 59)
  have HB0 := Lib.hid (below_new (Below.refl w.heap.size w) (.cells #[.slice A n c, .int .i64 x.Sum, .int .i64 x.Count, .int .i64 x.Least, .int .i64 x.Most] 59))
  have hB2 := Nat.le_trans hB HB0.out.size
  go_enter Try.func53, Try.ntmps53
  go_wp2_with first
    | (go_at_call 52; (with_reducible refine (labelsText_c x.Labels A n c _ B hl1 hB2 hok).mono ?_); rintro e w1 ⟨rfl, hb1⟩)
    | (go_at_call 54; (with_reducible refine (compare_c _ s _).mono ?_); rintro e w' ⟨rfl, rfl⟩)
  go_ret
  exact ⟨rfl, below_step HB0.out hb1⟩
set_option maxRecDepth 100000 in
set_option maxHeartbeats 1000000 in
theorem bsTot_c (l : List Total) (s : ByteArray) (A : Option Addr) (n c : Nat) (w : World) (B : Nat) (hl : Mm.SlAt rTotal w B l A n c) (hB : B ≤ w.heap.size) (hn : n ≤ 100) (hok : ∀ x, x ∈ l → Pl.labelsOk x.Labels = true) (hs : Pl.TSort l) :
    Calls Try.prog 51 #[.slice A n c, .string s, .func (.func 53) #[] #[]] w fun e w' => ∃ fd : Bool, e = .returned (.tuple #[.int .i64 (Pl.tpos s l : Nat), .bool fd]) ∧ (fd = true ↔ ∃ o, l[Pl.tpos s l]? = some o ∧ Pl.txt o = s) ∧ Below w.heap.size w w' := by
  have HL := Lib.hid hl
  have HLN : Hid (l.length = n) := hl.1
  have HOK := Lib.hid (And.intro hok hs)
  obtain ⟨p, hp⟩ : ∃ p, Pl.tpos s l = p := ⟨_, rfl⟩
  have HP := Lib.hid hp
  rw [hp]
  have hpn : p ≤ n := by rw [← hp, ← hl.1]; exact Pl.tpos_le s l
  clear hl hok hs hp
  go_enter Try.func51, Try.ntmps51
  go_wp2
  go_loopg [9, 10] n (fun g i j wr => ∃ a b : Nat, b - a ≤ g ∧ a ≤ p ∧ p ≤ b ∧ b ≤ n ∧ i = .int .i64 a ∧ j = .int .i64 b ∧ Hid (Below w.heap.size w wr))
  case atStart => exact ⟨0, n, by omega, Nat.zero_le _, hpn, Nat.le_refl _, rfl, rfl, Below.refl _ _⟩
  case round =>
    obtain ⟨a, b, hg, hap, hpb, hbn, rfl, rfl, HBE⟩ := hrel
    obtain ⟨W, rfl⟩ : ∃ W : World, W = wr := ⟨_, rfl⟩
    have HR := Lib.hid (HL.out.keep (w' := W) fun b hb => HBE.out.block b (Nat.lt_of_lt_of_le hb hB))
    have hBW := Nat.le_trans hB HBE.out.size
    by_cases hab : a < b
    · have f1 : (a : Int) < (b : Nat) := by omega
      obtain ⟨m, hm⟩ : ∃ m : Nat, ((a : Int) + (b : Int)) / 2 = m := ⟨(a + b) / 2, by omega⟩
      have hma : a ≤ m := by omega
      have hmb : m < b := by omega
      obtain ⟨x, bb, off, A1, n1, c1, hx, rfl, hbb, hlb, i1, i2, i3, i4, e0, e1, e2, e3, e4⟩ := rTotal_get HR.out (show m < n by omega)
      have hlk := HOK.out.1 x (List.mem_of_getElem? hx)
      obtain ⟨cv, hcv⟩ : ∃ cv, Lib.compareBytes (Pl.txt x).data.toList s.data.toList = cv := ⟨_, rfl⟩
      have CC := combCmp_c x s A1 n1 c1 W B hlb hBW hlk
      rw [hcv] at CC
      have hlt : decide (cv < 0) = Pl.lessB (Pl.txt x) s := by
        rw [← hcv, Pl.cmp_lt]
        unfold Pl.lessB
        rw [Lib.toList_data, Lib.toList_data]
      have HX := Lib.hid hx
      have f2 : (0 : Int) ≤ (m : Nat) := by omega
      have f3 : ((m : Nat) : Int).toNat = m := by omega
      have f4 : (m : Int) < (n : Nat) := by omega
      have f5 : (m : Int) < (b : Nat) := by omega
      have f6 : (a : Int) ≤ (m : Nat) := by omega
      have f7 : IntKind.i64.wrap ((m : Int) + 1) = (m : Int) + 1 := IntWalk.i64_in _ (by omega)
      clear hx hcv hlb
      cases hls : Pl.lessB (Pl.txt x) s with
      | true =>
        have hmp : m < p := by
          apply Classical.byContradiction
          intro hh
          have := Pl.tpos_ge s l HOK.out.2 m x (by have := HP.out; omega) HX.out
          rw [hls] at this; cases this
        have hlt2 : cv < 0 := by rw [hls] at hlt; simpa using hlt
        clear hlt hls
        go_wp2_with (go_at_call 53; (with_reducible refine CC.mono ?_); clear CC; rintro e w1 ⟨rfl, hb1⟩)
        go_roundg (b - (m + 1))
        case measure => omega
        case rel => exact ⟨m + 1, b, Nat.le_refl _, by omega, hpb, hbn, by go_num, rfl, below_step HBE.out hb1⟩
      | false =>
        have hmp : p ≤ m := by
          apply Classical.byContradiction
          intro hh
          have := Pl.tpos_lt s l m x (by have := HP.out; omega) HX.out
          rw [hls] at this; cases this
        have hlt2 : ¬ cv < 0 := by rw [hls] at hlt; simpa using hlt
        clear hlt hls
        go_wp2_with (go_at_call 53; (with_reducible refine CC.mono ?_); clear CC; rintro e w1 ⟨rfl, hb1⟩)
        go_roundg (m - a)
        case measure => omega
        case rel => exact ⟨a, m, Nat.le_refl _, hap, hmp, by omega, rfl, by go_num, below_step HBE.out hb1⟩
    · have hab2 : a = p := by omega
      subst hab2
      have f1 : ¬ (a : Int) < (b : Nat) := by omega
      by_cases han : a < n
      · obtain ⟨x, bb, off, A1, n1, c1, hx, rfl, hbb, hlb, i1, i2, i3, i4, e0, e1, e2, e3, e4⟩ := rTotal_get HR.out han
        have hlk := HOK.out.1 x (List.mem_of_getElem? hx)
        obtain ⟨cv, hcv⟩ : ∃ cv, Lib.compareBytes (Pl.txt x).data.toList s.data.toList = cv := ⟨_, rfl⟩
        have CC := combCmp_c x s A1 n1 c1 W B hlb hBW hlk
        rw [hcv] at CC
        have heq : (cv == 0) = true ↔ Pl.txt x = s := by
          rw [← hcv, beq_iff_eq, Pl.cmp_zero]
          exact ⟨Pl.ba_ext, fun h => by rw [h]⟩
        have HX := Lib.hid hx
        have HE := Lib.hid heq
        have f2 : (0 : Int) ≤ (a : Nat) := by omega
        have f3 : ((a : Nat) : Int).toNat = a := by omega
        have f4 : (a : Int) < (n : Nat) := by omega
        clear hx hcv hlb heq
        go_wp2_with (go_at_call 53; (with_reducible refine CC.mono ?_); clear CC; rintro e w1 ⟨rfl, hb1⟩)
        go_ret2
        refine ⟨_, rfl, ?_, below_step HBE.out hb1⟩
        rw [HE.out]
        exact ⟨fun h => ⟨x, HX.out, h⟩, fun ⟨o, ho, he⟩ => by rw [HX.out] at ho; injection ho with ho; rw [ho]; exact he⟩
      · have f4 : ¬ (a : Int) < (n : Nat) := by omega
        go_wp2
        go_ret2
        exact .inl ⟨rfl, fun o ho => absurd (List.getElem?_eq_some_iff.1 ho).1 (by rw [HLN.out]; omega), HBE.out⟩
end Go.Proofs.Ytnppcdiicnofpab

/-
  Contracts: slices.Clone where the elements lead nowhere. No conditions.
-/
namespace Go.Proofs.Ytnppcdiicnofpab
open Go.RowKit
end Go.Proofs.Ytnppcdiicnofpab

/-
  slices.Delete of one element, on slices whose elements lead nowhere. No program in sight. No conditions.
-/
namespace Go.Proofs.Ytnppcdiicnofpab
open Go.RowKit
namespace Mm
/-- elements of several cells that lead nowhere -/
structure FlatN {α : Type} (E : Rep α) (enc : α → List Value) : Prop where
  pos : 0 < E.size
  inv : ∀ {w x cs fx}, E.own w x cs fx → cs = enc x ∧ fx = [] ∧ ∀ w', E.own w' x (enc x) []
theorem flatMap_len {α : Type} {s : Nat} {enc : α → List Value} : ∀ {xs : List α}, (∀ x, x ∈ xs → (enc x).length = s) → (xs.flatMap enc).length = xs.length * s
  | [], _ => by simp
  | a :: t, h => by
    rw [List.flatMap_cons, List.length_append, h a (by simp), flatMap_len (fun x hx => h x (List.mem_cons_of_mem _ hx)), List.length_cons, Nat.succ_mul]; omega
theorem flatMap_drop {α : Type} {s : Nat} {enc : α → List Value} : ∀ {xs : List α} (k : Nat), (∀ x, x ∈ xs → (enc x).length = s) → (xs.drop k).flatMap enc = (xs.flatMap enc).drop (k * s)
  | xs, 0, _ => by simp
  | [], k + 1, _ => by simp
  | a :: t, k + 1, h => by
    rw [List.drop_succ_cons, List.flatMap_cons, flatMap_drop k (fun x hx => h x (List.mem_cons_of_mem _ hx)), List.drop_append, h a (by simp), List.drop_eq_nil_of_le (show (enc a).length ≤ (k + 1) * s by rw [h a (by simp), Nat.succ_mul]; omega), List.nil_append]
    congr 1
    rw [Nat.succ_mul]; omega
theorem flatMap_take {α : Type} {s : Nat} {enc : α → List Value} : ∀ {xs : List α} (k : Nat), (∀ x, x ∈ xs → (enc x).length = s) → (xs.take k).flatMap enc = (xs.flatMap enc).take (k * s)
  | xs, 0, _ => by simp
  | [], k + 1, _ => by simp
  | a :: t, k + 1, h => by
    rw [List.take_succ_cons, List.flatMap_cons, List.flatMap_cons, flatMap_take k (fun x hx => h x (List.mem_cons_of_mem _ hx)), List.take_append, h a (by simp), List.take_of_length_le (show (enc a).length ≤ (k + 1) * s by rw [h a (by simp), Nat.succ_mul]; omega)]
    congr 2
    rw [Nat.succ_mul]; omega
section
variable {α : Type} {E : Rep α} {enc : α → List Value} {e : TypeId} {w w' : World} {xs : List α} {v : Value} {fp : List Nat} {g n c : Nat}
theorem FlatN.owns (hF : FlatN E enc) (h : SlOwn E e w xs v fp) : w.ownsRow 0 e E.size v xs.length (xs.flatMap enc) ∧ fp = v.ownBlock.toList ∧ (∀ x, x ∈ xs → ∀ w', E.own w' x (enc x) []) ∧ ∀ x, x ∈ xs → (enc x).length = E.size := by
  obtain ⟨es, he, ho, rfl⟩ := h
  have h1 : es = xs.map fun x => (enc x, ([] : List Nat)) := by
    apply List.ext_getElem?
    intro i
    rw [List.getElem?_map]
    rcases Nat.lt_or_ge i xs.length with hi | hi
    · have hx := List.getElem?_eq_getElem hi
      have hy := List.getElem?_eq_getElem (show i < es.length by rw [he.1]; exact hi)
      have h2 := hF.inv (he.2 i _ _ hx hy)
      rw [hx, hy]
      exact congrArg some (Prod.ext h2.1 h2.2.1)
    · rw [List.getElem?_eq_none hi, List.getElem?_eq_none (by rw [he.1]; exact hi)]
      rfl
  have h3 : (xs.map fun x => (enc x, ([] : List Nat))).flatMap (·.1) = xs.flatMap enc := by rw [List.flatMap_map]
  have h4 : (xs.map fun x => (enc x, ([] : List Nat))).flatMap (·.2) = [] := by simp [List.flatMap_map]
  have h5 : ∀ x, x ∈ xs → ∀ w', E.own w' x (enc x) [] := fun x hx w' => by
    obtain ⟨i, hi, rfl⟩ := List.mem_iff_getElem.1 hx
    exact (hF.inv (he.2 i _ _ (List.getElem?_eq_getElem hi) (List.getElem?_eq_getElem (show i < es.length by rw [he.1]; exact hi)))).2.2 w'
  refine ⟨?_, by rw [h1, h4]; simp, h5, fun x hx => E.olen (h5 x hx w)⟩
  rw [h1, h3] at ho
  exact ho
theorem FlatN.blk (hF : FlatN E enc) (h : SlOwn E e w xs (.slice (some ⟨g, 0, none⟩) n c) fp) : ∃ cur, Blk w g e cur ∧ cur.length = c * E.size ∧ cur.take (n * E.size) = xs.flatMap enc ∧ n = xs.length ∧ n ≤ c ∧ c ≤ maxLen ∧ fp = [g] := by
  obtain ⟨h1, h2, _⟩ := hF.owns h
  rcases h1.2 with ⟨h3, _⟩ | ⟨g', cap, cur, h3, _, hg, hnc, hcm, hcs, htake⟩
  · simp at h3
  · simp only [Value.slice.injEq, Option.some.injEq, Addr.mk.injEq, and_true] at h3
    obtain ⟨rfl, rfl, rfl⟩ := h3
    refine ⟨cur.toList, by unfold Blk; rw [Array.toArray_toList]; exact hg, by simpa using hcs, by simpa using htake, rfl, hnc, hcm, by rw [h2]; simp [Value.ownBlock]⟩
theorem FlatN.of_blk (_hF : FlatN E enc) {cur : List Value} (h : Blk w g e cur) (hl : cur.length = c * E.size) (ht : cur.take (n * E.size) = xs.flatMap enc) (hn : xs.length = n) (hnc : n ≤ c) (hc : c ≤ maxLen) (hE : ∀ x, x ∈ xs → E.own w x (enc x) []) : SlOwn E e w xs (.slice (some ⟨g, 0, none⟩) n c) [g] := by
  subst hn
  refine SlOwn.of_row (enc := enc) ⟨by simp [flatMap_len fun x hx => E.olen (hE x hx)], .inr ⟨g, c, cur.toArray, rfl, Nat.zero_le _, h, hnc, hc, by simpa using hl, by simpa using ht⟩⟩ hE ?_
  simp
/-- behind slices.Delete of element k: what follows has moved up, the last place is cleared -/
theorem FlatN.erase (hF : FlatN E enc) (h : SlOwn E e w xs (.slice (some ⟨g, 0, none⟩) n c) fp) {k : Nat} (hk : k < n) {z : List Value} (hz : z.length = E.size) {o1 o2 : Nat} (h1 : k * E.size = o1) (h2 : (n - 1) * E.size = o2) :
    Chg fp w ((w.drew.setCells g o1 ((xs.drop (k + 1)).flatMap enc)).setCells g o2 z) ∧ SlOwn E e ((w.drew.setCells g o1 ((xs.drop (k + 1)).flatMap enc)).setCells g o2 z) (xs.eraseIdx k) (.slice (some ⟨g, 0, none⟩) (n - 1) c) fp := by
  subst h1; subst h2
  obtain ⟨_, _, hown, hlen⟩ := hF.owns h
  obtain ⟨cur, hb, hcl, ht, rfl, hnc, hcm, rfl⟩ := hF.blk h
  have hb0 : Blk w.drew g e cur := hb
  have hb2 := setCells_blk z _ ((xs.length - 1) * E.size) _ (setCells_blk ((xs.drop (k + 1)).flatMap enc) _ (k * E.size) _ hb0)
  refine ⟨((Chg.of_below (Below.refl w.heap.size w).drew).trans (setCells_chg g _ _ _)).trans (setCells_chg g _ _ _), ?_⟩
  have hsub : ∀ x, x ∈ xs.eraseIdx k → x ∈ xs := fun x hx => List.mem_of_mem_eraseIdx hx
  have hdl : ((xs.drop (k + 1)).flatMap enc).length = (xs.length - 1 - k) * E.size := by
    rw [flatMap_len (s := E.size) (fun x hx => hlen x (List.mem_of_mem_drop hx)), List.length_drop]; congr 1; omega
  have e1 : k * E.size + (xs.length - 1 - k) * E.size = (xs.length - 1) * E.size := by rw [← Nat.add_mul]; congr 1; omega
  have e2 : (xs.length - 1) * E.size + E.size = xs.length * E.size := by rw [← Nat.succ_mul]; congr 1; omega
  have e3 : xs.length * E.size ≤ cur.length := by rw [hcl]; exact Nat.mul_le_mul_right _ hnc
  have e4 : k * E.size + E.size = (k + 1) * E.size := (Nat.succ_mul _ _).symm
  refine hF.of_blk hb2 (by rw [setList_len, setList_len, hcl]) ?_ (List.length_eraseIdx_of_lt hk) (by omega) hcm (fun x hx => hown x (hsub x hx) _)
  have hE : (xs.eraseIdx k).flatMap enc = (xs.flatMap enc).take (k * E.size) ++ (xs.flatMap enc).drop ((k + 1) * E.size) := by
    rw [List.eraseIdx_eq_take_drop_succ, List.flatMap_append, flatMap_take k hlen, flatMap_drop (k + 1) hlen]
  have hfl : (xs.flatMap enc).length = xs.length * E.size := flatMap_len hlen
  apply List.ext_getElem?
  intro j
  rw [hE, List.getElem?_take]
  by_cases hj : j < (xs.length - 1) * E.size
  · rw [if_pos hj, setList_get _ _ _ _ (by rw [setList_len]; omega), if_neg (by omega), setList_get _ _ _ _ (by rw [hdl]; omega), hdl]
    by_cases hjk : j < k * E.size
    · rw [if_neg (by omega), List.getElem?_append_left (by rw [List.length_take, hfl]; omega), List.getElem?_take, if_pos hjk, ← ht, List.getElem?_take, if_pos (by omega)]
    · rw [if_pos (by omega), List.getElem?_append_right (by rw [List.length_take]; omega), flatMap_drop (k + 1) hlen, List.length_take, hfl, Nat.min_eq_left (by omega)]
  · rw [if_neg hj, List.getElem?_append_right (by rw [List.length_take]; omega), List.getElem?_drop, List.length_take, hfl, Nat.min_eq_left (by omega), List.getElem?_eq_none (by rw [hfl]; omega)]
/-- the cells behind element k -/
theorem FlatN.cells (hF : FlatN E enc) (h : SlOwn E e w xs (.slice (some ⟨g, 0, none⟩) n c) fp) {j : Nat} {u : Value} (hj : (xs.flatMap enc)[j]? = some u) : w.cell? ⟨g, j, none⟩ = some u := by
  obtain ⟨cur, hb, hcl, ht, rfl, hnc, hcm, rfl⟩ := hF.blk h
  refine hb.cell ?_
  rw [← ht, List.getElem?_take] at hj
  split at hj
  · exact hj
  · cases hj
end
theorem run_clear_one {P : Program} (w : World) (t e ty : TypeId) (z : Value) (ht : P.underlying t = some (.slice e)) (hv : ∀ w, (zeroValue e).run P w = .ok z w) (h1 : ∀ u ∈ z.cells, u.oneCell' = true) (b o c : Nat)
    (hc : ∀ j, j < z.cells.size → (w.cell? ⟨b, o + j, none⟩).isSome = true) (hf : ∀ j, j < z.cells.size → w.frozen? ⟨b, o + j, none⟩ = false) :
    (Builtin.clear_ #[t] ty #[.slice (some ⟨b, o, none⟩) 1 c]).run P w = .ok (.tuple #[]) (w.setCells b o z.cells.toList) := by
  have hzc : (Builtin.zeroCells z.cells 1).toList = z.cells.toList := by
    apply List.ext_getElem?
    intro j
    by_cases hj : j < z.cells.size
    · simp [Builtin.zeroCells, hj, Nat.mod_eq_of_lt hj]
    · simp [Builtin.zeroCells, hj]
  have hst := run_storeCells_cells (P := P) b o z.cells.toList 0 w (by simpa using hc) (by simpa using hf) (by intro u hu; exact h1 u (by simpa using hu))
  simp only [Nat.add_zero] at hst
  simp [Builtin.clear_, run_underlying ht, hv, hzc, hst]
end Mm
end Go.Proofs.Ytnppcdiicnofpab

/-
  'append([]T{}, l...)' inside a larger statement: the copy becomes one of the things that the call owns. No program in sight. No conditions.
-/
namespace Go.Proofs.Ytnppcdiicnofpab
open Go.RowKit
namespace Mm
/-- elements that lead nowhere: what they are written as -/
structure Flat {α : Type} (E : Rep α) (enc : α → List Value) : Prop where
  at_ : ∀ {w B x cs}, E.at_ w B x cs → cs = enc x
  own : ∀ {w B x cs}, E.at_ w B x cs → ∀ w', E.own w' x (enc x) []
theorem flat_int : Flat int (fun x => [.int .i64 x]) := ⟨fun h => h.1, fun h _ => ⟨rfl, h.2, rfl⟩⟩
theorem flat_str : Flat str (fun x => [.string x]) := ⟨fun h => h.1, fun h _ => ⟨rfl, h.2, rfl⟩⟩
theorem flat_bool : Flat bool (fun x => [.bool x]) := ⟨fun h => h.1, fun h _ => ⟨rfl, h.2, rfl⟩⟩
section
variable {P : Program} {α : Type} {E : Rep α} {enc : α → List Value} {w0 wr W : World} {ts : List Thing} {xs : List α} {A : Option Addr} {n c g B : Nat} {e : TypeId}
theorem run_clone (hF : Flat E enc) (t ty : TypeId) (i : TypeInfo) (z : Value) (bytes : Nat) (ht : P.underlying t = some (.slice e)) (hi : P.info? e = some i) (hz : i.zero = some z) (hsize : i.size = E.size) (hby : i.bytes = bytes) (hzs : z.cells.size = E.size) (hsz : 0 < E.size)
    (h : Sep w0 wr ts) (hb : Below wr.heap.size wr W) (hg : W.heap[g]? = some (.cells #[] e (0, 0))) (hgn : wr.heap.size ≤ g) (hl : SlAt E W B xs A n c) (hn : n ≤ maxLen) (hbytes : n * bytes ≤ 140737488355328) :
    ∃ A2 c2 fp w1, (Builtin.append_ #[t, t] ty #[.slice (some ⟨g, 0, none⟩) 0 0, .slice A n c]).run P W = .ok (.slice A2 n c2) w1 ∧ Sep w0 w1 (tsl E e xs (.slice A2 n c2) fp :: ts) ∧ Below wr.heap.size wr w1 := by
  have hown : W.ownsRow g e E.size (.slice (some ⟨g, 0, none⟩) 0 0) 0 [] := ⟨by simp, .inr ⟨g, 0, #[], rfl, Nat.le_refl _, hg, Nat.le_refl _, Nat.zero_le _, by simp, by simp⟩⟩
  have hlt : g < W.heap.size := by
    rcases Nat.lt_or_ge g W.heap.size with h1 | h1
    · exact h1
    · rw [Array.getElem?_eq_none h1] at hg; cases hg
  have hE : ∀ w1 x, x ∈ xs → E.own w1 x (enc x) [] := fun w1 x hx => by
    obtain ⟨k, hk, rfl⟩ := List.mem_iff_getElem.1 hx
    obtain ⟨y, b, off, cs, hy, _, _, ha, _⟩ := hl.get (k := k) (by rw [← hl.1]; exact hk)
    rw [List.getElem?_eq_getElem hk] at hy
    injection hy with hy
    subst hy
    exact hF.own ha w1
  have main : ∀ v w1, w1.ownsRow g e E.size v n (xs.flatMap enc) → W.grownBy w1 (some g) → ∃ A2 c2 fp, v = .slice A2 n c2 ∧ Sep w0 w1 (tsl E e xs (.slice A2 n c2) fp :: ts) ∧ Below wr.heap.size wr w1 := fun v w1 k1 k2 => by
    have h0 : w1.ownsRow 0 e E.size v n (xs.flatMap enc) := ⟨k1.1, k1.2.imp id fun ⟨g', cap, cur, h1, _, h3⟩ => ⟨g', cap, cur, h1, Nat.zero_le _, h3⟩⟩
    have hs := SlOwn.of_row h0 (fun x hx => hE w1 x hx) hl.1
    obtain ⟨A2, n2, c2, hv, hn2, _⟩ := hs.form
    have hbl : Below wr.heap.size wr w1 := hb.grown k2 (by have := hb.size; omega) (fun k hk => by injection hk with hk; omega)
    subst hv
    have hn3 : n2 = n := hn2.trans hl.1
    subst hn3
    exact ⟨A2, c2, _, rfl, h.add hbl (t := tsl E e xs (.slice A2 n2 c2) _) hs (by simp only [tsl]; cases (Value.slice A2 n2 c2).ownBlock <;> simp) (fun b hb => by
      simp only [tsl, Option.mem_toList] at hb
      have := (k1.lt b hb).1; omega), hbl⟩
  cases A with
  | none =>
    have hc0 : c = 0 := hl.2.2.2.1 rfl
    have hn0 : n = 0 := by have := hl.2.1; omega
    subst hc0; subst hn0
    have hx0 : xs = [] := List.length_eq_zero_iff.1 hl.1
    have hr := run_append_owned_none (P := P) W g t ty e i E.size ht hi _ _ _ hown
    obtain ⟨A2, c2, fp, hv, hS, hB⟩ := main _ W (by rw [hx0]; exact hown) ⟨rfl, rfl, rfl, Nat.le_refl _, fun _ _ _ => rfl⟩
    exact ⟨A2, c2, fp, W, by rw [hr, hv], hS, hB⟩
  | some a =>
    obtain ⟨v', w1, hr, h2, h3, _, h5⟩ := run_append_own_at (P := P) W g t ty e i z E.size bytes ht hi hz hsize hby hzs hsz _ 0 [] hown a n c (xs.flatMap enc) (flat_len (fun x cs h => hF.at_ h) hl) (flat_cells' (fun x cs h => hF.at_ h) hl) (fun u hu => by
      obtain ⟨x, hx, hu⟩ := List.mem_flatMap.1 hu
      exact E.one (hE W x hx) u hu) (by omega) (by rw [Nat.zero_add]; exact hbytes) (by omega)
    rw [Nat.zero_add, List.nil_append] at h2
    obtain ⟨A2, c2, fp, hv, hS, hB⟩ := main v' w1 h2 h3
    exact ⟨A2, c2, fp, w1, by rw [hr, hv], hS, hB⟩

theorem wp_clone {o : Oper} {a : Act} {K : Act → World → Prop} {Q : Exit → Act → World → Prop} (s x : Operand) (t : TypeId)
    (ho : o.op = .call { callee := .builtin .append, args := #[s, x], argTypes := #[t, t] })
    (hF : Flat E enc) (i : TypeInfo) (z : Value) (bytes : Nat) (ht : P.underlying t = some (.slice e)) (hi : P.info? e = some i) (hz : i.zero = some z) (hsize : i.size = E.size) (hby : i.bytes = bytes) (hzs : z.cells.size = E.size) (hsz : 0 < E.size)
    (h : Sep w0 wr ts) (hb : Below wr.heap.size wr W) (hg : W.heap[g]? = some (.cells #[] e (0, 0))) (hgn : wr.heap.size ≤ g) (hl : SlAt E W B xs A n c) (hn : n ≤ maxLen) (hbytes : n * bytes ≤ 140737488355328)
    (hs : a.eval s = .slice (some ⟨g, 0, none⟩) 0 0) (hx : a.eval x = .slice A n c)
    (hk : ∀ A2 c2 fp w1, Sep w0 w1 (tsl E e xs (.slice A2 n c2) fp :: ts) → Below wr.heap.size wr w1 → K (a.put o.dst (.slice A2 n c2)) w1) : o.wp P a W K Q := by
  obtain ⟨A2, c2, fp, w1, hr, h2, h3⟩ := run_clone (P := P) hF t o.type i z bytes ht hi hz hsize hby hzs hsz h hb hg hgn hl hn hbytes
  unfold Oper.wp execOp
  simp only [ho, resolve, invoke, builtin, Sem.run_bind, Sem.run_pure, Result.andThen_ok, List.map_toArray, List.map_cons, List.map_nil, hs, hx, hr]
  exact hk A2 c2 fp w1 h2 h3
theorem step_clone {ops : Array Oper} {o : Oper} {a : Act} {K : Act → World → Prop} {Q : Exit → Act → World → Prop} {X : Prop} (hgd : o.guard = none) (s x : Operand) (t : TypeId)
    (ho : o.op = .call { callee := .builtin .append, args := #[s, x], argTypes := #[t, t] })
    (hF : Flat E enc) (i : TypeInfo) (z : Value) (bytes : Nat) (ht : P.underlying t = some (.slice e)) (hi : P.info? e = some i) (hz : i.zero = some z) (hsize : i.size = E.size) (hby : i.bytes = bytes) (hzs : z.cells.size = E.size) (hsz : 0 < E.size)
    (h : Sep w0 wr ts) (hb : Below wr.heap.size wr W) (hg : W.heap[g]? = some (.cells #[] e (0, 0))) (hgn : wr.heap.size ≤ g) (hl : SlAt E W B xs A n c) (hn : n ≤ maxLen) (hbytes : n * bytes ≤ 140737488355328)
    (hs : a.eval s = .slice (some ⟨g, 0, none⟩) 0 0) (hx : a.eval x = .slice A n c)
    (hk : ∀ A2 c2 fp w1, Sep w0 w1 (tsl E e xs (.slice A2 n c2) fp :: ts) → Below wr.heap.size wr w1 → K (a.put o.dst (.slice A2 n c2)) w1) :
    if Region.wanted o (yielded ops a.tmps) = true then Oper.wp P o a W K Q else X := by
  have hw : Region.wanted o (yielded ops a.tmps) = true := by simp [Region.wanted, hgd]
  rw [if_pos hw]
  exact wp_clone s x t ho hF i z bytes ht hi hz hsize hby hzs hsz h hb hg hgn hl hn hbytes hs hx hk
theorem wpList_clone {ops : Array Oper} {rest : List Oper} {o : Oper} {a : Act} {Q : Exit → Act → World → Prop} (hgd : o.guard = none) (s x : Operand) (t : TypeId)
    (ho : o.op = .call { callee := .builtin .append, args := #[s, x], argTypes := #[t, t] })
    (hF : Flat E enc) (i : TypeInfo) (z : Value) (bytes : Nat) (ht : P.underlying t = some (.slice e)) (hi : P.info? e = some i) (hz : i.zero = some z) (hsize : i.size = E.size) (hby : i.bytes = bytes) (hzs : z.cells.size = E.size) (hsz : 0 < E.size)
    (h : Sep w0 wr ts) (hb : Below wr.heap.size wr W) (hg : W.heap[g]? = some (.cells #[] e (0, 0))) (hgn : wr.heap.size ≤ g) (hl : SlAt E W B xs A n c) (hn : n ≤ maxLen) (hbytes : n * bytes ≤ 140737488355328)
    (hs : a.eval s = .slice (some ⟨g, 0, none⟩) 0 0) (hx : a.eval x = .slice A n c)
    (hk : ∀ A2 c2 fp w1, Sep w0 w1 (tsl E e xs (.slice A2 n c2) fp :: ts) → Below wr.heap.size wr w1 → wpList P ops Q rest (a.put o.dst (.slice A2 n c2)) w1) : wpList P ops Q (o :: rest) a W :=
  wpList_plain hgd fun _ hK => wp_clone s x t ho hF i z bytes ht hi hz hsize hby hzs hsz h hb hg hgn hl hn hbytes hs hx (fun A2 c2 fp w1 h1 h2 => hK _ _ (hk A2 c2 fp w1 h1 h2))
end
end Mm
end Go.Proofs.Ytnppcdiicnofpab
