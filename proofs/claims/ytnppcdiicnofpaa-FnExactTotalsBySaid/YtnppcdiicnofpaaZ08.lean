/-
  Joined texts, in build order: It, Mb. Each part says what it proves; no conditions beyond those that a part names.
-/
import Derived.Test.YtnppcdiicnofpaaZ01
import Derived.Test.YtnppcdiicnofpaaZ02
import Derived.Test.YtnppcdiicnofpaaZ03
import Derived.Test.YtnppcdiicnofpaaZ04
import Derived.Test.YtnppcdiicnofpaaZ05
import Derived.Test.YtnppcdiicnofpaaZ06
import Derived.Test.YtnppcdiicnofpaaZ07
import Derived.Deep.RegionHeld3
/-
  Plain items, and contracts: which items are good, the program's and the reference's. No conditions.
-/
namespace Go.Proofs.Ytnppcdiicnofpaa
open Go.RowKit
attribute [local go_sem] und_cell World.cell?_alloc_some
namespace Pl
def itemOk (x : Item) : Bool := labelsOk x.Labels && isIn x.Value (-1000000) 1000000
def itemsOk (l : List Item) : Bool := l.all itemOk && decide (l.length ≤ 40)
def titem (names : List ByteArray) (x : Item) : Total := ⟨keepL x.Labels names, x.Value, 1, x.Value, x.Value⟩
def tby (l : List Item) (names : List ByteArray) : List Total × Bool := if (itemsOk l && decide (names.length ≤ 6)) = true then (tcomb (l.map (titem names)), true) else ([], false)
theorem itemOk_iff {x : Item} : itemOk x = true ↔ labelsOk x.Labels = true ∧ -1000000 ≤ x.Value ∧ x.Value ≤ 1000000 := by
  unfold itemOk
  rw [Bool.and_eq_true, isIn_if]
theorem itemsOk_iff {l : List Item} : itemsOk l = true ↔ (∀ x, x ∈ l → itemOk x = true) ∧ l.length ≤ 40 := by
  unfold itemsOk
  rw [Bool.and_eq_true, List.all_eq_true, decide_eq_true_eq]
theorem totOk_item {x : Item} (names : List ByteArray) (h : itemOk x = true) : totOk (titem names x) = true := by
  obtain ⟨h1, h2, h3⟩ := itemOk_iff.1 h
  exact totOk_iff.2 ⟨labelsOk_keep names h1, ⟨by show (1 : Int) ≤ 1; omega, by show (1 : Int) ≤ 1000; omega⟩, ⟨by show _ ≤ x.Value; omega, by show x.Value ≤ _; omega⟩, ⟨by show _ ≤ x.Value; omega, Int.le_refl _⟩, h3⟩
theorem totalsOk_mk {l : List Total} (hs : TSort l) (h : ∀ x, x ∈ l → totOk x = true) (hl : l.length ≤ 40) : totalsOk l = true := by
  unfold totalsOk
  rw [Bool.and_eq_true, decide_eq_true_eq]
  refine ⟨allB_iff.2 fun k hk => ?_, hl⟩
  have hx := List.getElem?_eq_getElem hk
  unfold totP totQ
  rw [totAt_of hx, Bool.and_eq_true, Bool.or_eq_true, decide_eq_true_eq]
  refine ⟨h _ (List.getElem_mem hk), ?_⟩
  rcases Nat.eq_zero_or_pos k with h0 | h0
  · exact .inl h0
  · right
    have hz := List.getElem?_eq_getElem (show k - 1 < l.length by omega)
    rw [totAt_of hz]
    exact hs (k - 1) k _ _ (by omega) hz hx
/-- as many as have been counted, each small -/
def Few (b : Nat) (l : List Total) : Prop := ∀ x, x ∈ l → -1000000 * x.Count ≤ x.Sum ∧ x.Sum ≤ 1000000 * x.Count ∧ x.Count ≤ b
theorem Few.put {b : Nat} {l : List Total} {names : List ByteArray} {y : Item} (h : Few b l) (hy : itemOk y = true) : Few (b + 1) (tput l (titem names y)) := by
  obtain ⟨_, h2, h3⟩ := itemOk_iff.1 hy
  intro x hx
  rcases tput_mem hx with hx | rfl | ⟨o, ho, rfl⟩
  · have := h x hx
    refine ⟨this.1, this.2.1, ?_⟩
    have := this.2.2
    omega
  · refine ⟨?_, ?_, ?_⟩
    · show -1000000 * (1 : Int) ≤ y.Value; omega
    · show y.Value ≤ 1000000 * (1 : Int); omega
    · show (1 : Int) ≤ _; omega
  · have := h o ho
    refine ⟨?_, ?_, ?_⟩
    · show -1000000 * (o.Count + 1) ≤ o.Sum + y.Value; omega
    · show o.Sum + y.Value ≤ 1000000 * (o.Count + 1); omega
    · show o.Count + 1 ≤ _; omega
theorem Few.comb {l : List Item} (names : List ByteArray) (hl : ∀ x, x ∈ l → itemOk x = true) : ∀ k, k ≤ l.length → Few k (tcomb ((l.map (titem names)).take k))
  | 0, _ => fun x hx => by cases hx
  | k + 1, hk => by
    have hx : (l.map (titem names))[k]? = some (titem names l[k]) := by rw [List.getElem?_map, List.getElem?_eq_getElem (by omega)]; rfl
    rw [tcomb_next hx]
    exact (Few.comb names hl k (by omega)).put (hl _ (List.getElem_mem _))
theorem items_tok {l : List Item} (names : List ByteArray) (h : itemsOk l = true) : ∀ y, y ∈ l.map (titem names) → totOk y = true := fun y hy => by
  obtain ⟨x, hx, rfl⟩ := List.mem_map.1 hy
  exact totOk_item names ((itemsOk_iff.1 h).1 x hx)
theorem tby_good {l : List Item} (names : List ByteArray) (h : itemsOk l = true) : totalsOk (tcomb (l.map (titem names))) = true := by
  obtain ⟨h1, h2⟩ := itemsOk_iff.1 h
  have hT := TOk.comb (items_tok names h) l.length (by rw [List.length_map]; exact Nat.le_refl _)
  have hF := Few.comb names h1 l.length (Nat.le_refl _)
  rw [List.take_of_length_le (by rw [List.length_map]; exact Nat.le_refl _)] at hT hF
  refine totalsOk_mk hT.sort (fun x hx => ?_) (Nat.le_trans hT.len h2)
  have a := hT.cnt x hx
  have b := hF x hx
  have c := hT.least x hx
  refine totOk_iff.2 ⟨hT.lab x hx, ⟨a.1, ?_⟩, ⟨?_, ?_⟩, ⟨c.1, c.2.1⟩, c.2.2⟩ <;> omega
theorem itemsOk_next {l : List Item} {k : Nat} {x : Item} (h : l[k]? = some x) : (l.take (k + 1)).all itemOk = ((l.take k).all itemOk && itemOk x) := by
  obtain ⟨hk, hx⟩ := List.getElem?_eq_some_iff.1 h
  rw [List.take_succ_eq_append_getElem hk, hx, List.all_append]
  simp
end Pl
theorem inItem_is {n a b : Int} {r : Bool} (h : Pl.isIn n a b = r) (w : World) : Calls Try.prog 52 #[.int .i64 n, .int .i64 a, .int .i64 b] w fun e w' => e = .returned (.bool r) ∧ w = w' := h ▸ within_c n a b w
theorem l1Item_is {n a b : Int} {r : Bool} (h : Pl.isIn n a b = r) (w : World) : Calls Try.prog 48 #[.int .i64 n, .int .i64 a, .int .i64 b] w fun e w' => e = .returned (.bool r) ∧ w = w' := h ▸ l1In_c n a b w
theorem itemBad_c (x : Item) (A2 : Option Addr) (n2 c2 : Nat) (w : World) (B : Nat) (hl : Mm.SlAt rLabel w B x.Labels A2 n2 c2) (hB : B ≤ w.heap.size) :
    Calls Try.prog 92 #[.agg #[.slice A2 n2 c2, .int .i64 x.Value]] w fun e w' => e = .returned (.bool (!Pl.itemOk x)) ∧ Below w.heap.size w w' := by
  obtain ⟨W1, hW1⟩ : ∃ W1, w.alloc (.cells #[.slice A2 n2 c2, .int .i64 x.Value] 91) = W1 := ⟨_, rfl⟩
  obtain ⟨gt, hgt⟩ : ∃ gt, w.heap.size = gt := ⟨_, rfl⟩
  have hB1 : Below w.heap.size w W1 := by rw [← hW1]; exact below_new (Below.refl _ _) _
  have hnb : Mm.Blk W1 gt 91 [.slice A2 n2 c2, .int .i64 x.Value] := by rw [← hW1, ← hgt]; exact Mm.Blk.new w _ _
  have CL := areLabels_c x.Labels A2 n2 c2 W1 B (hl.keep fun b hb => hB1.block b (Nat.lt_of_lt_of_le hb hB)) (Nat.le_trans hB hB1.size)
  have HNB := Lib.hid hnb
  have HB1 := Lib.hid hB1
  have t0 : W1.cell? ⟨gt, 0, none⟩ = some (.slice A2 n2 c2) := hnb.cell rfl
  clear hl hnb hB1
  cases h1 : Pl.labelsOk x.Labels with
  | false =>
    rw [h1] at CL
    have HN : Hid ((!Pl.itemOk x) = true) := by show _ = _; unfold Pl.itemOk; rw [h1]; rfl
    clear h1
    go_enter Try.func92, Try.ntmps92
    go_wp2_with (go_at_call 70; (with_reducible refine CL.mono ?_); clear CL; rintro e w2 ⟨rfl, hb2⟩)
    rw [HN.out]
    go_ret
    exact ⟨rfl, below_step HB1.out hb2⟩
  | true =>
    rw [h1] at CL
    obtain ⟨bi, h2⟩ : ∃ bi, Pl.isIn x.Value (-1000000) 1000000 = bi := ⟨_, rfl⟩
    have HN : Hid ((!Pl.itemOk x) = !bi) := by show _ = _; unfold Pl.itemOk; rw [h1, h2, Bool.true_and]
    have H2 := Lib.hid h2
    clear h1 h2
    rw [HN.out]
    go_enter Try.func92, Try.ntmps92
    go_wp2_with first
      | (go_at_call 70; (with_reducible refine CL.mono ?_); clear CL; rintro e w2 ⟨rfl, hb2⟩; (have t1 := (HNB.out.bel hb2).cell (show [Value.slice A2 n2 c2, Value.int .i64 x.Value][1]? = some _ from rfl)))
      | (go_at_call 52; (with_reducible refine (inItem_is H2.out _).mono ?_); rintro e w' ⟨rfl, rfl⟩)
    cases bi <;> (go_ret; exact ⟨rfl, below_step HB1.out hb2⟩)
set_option maxRecDepth 100000 in
theorem itemFind_c (l : List Item) (A : Option Addr) (n c : Nat) (w : World) (B : Nat) (hl : Mm.SlAt rItem w B l A n c) (hB : B ≤ w.heap.size) :
    Calls Try.prog 108 #[.slice A n c, .func (Fn.func 92) #[] #[]] w fun e w' => ∃ i : Int, e = .returned (.int .i64 i) ∧ (l.all Pl.itemOk = decide (i < 0)) ∧ Below w.heap.size w w' := by
  have hn : n ≤ 9223372036854775807 := by have := hl.2.1; have := hl.2.2.1; unfold maxLen at this; omega
  have HLN : Hid (l.length = n) := hl.1
  have HL := Lib.hid hl
  clear hl
  go_enter Try.func108, Try.ntmps108
  go_wp2
  go_loopg [5, 8] n (fun g _ i wr => ∃ k : Nat, n - k ≤ g ∧ k ≤ n ∧ i = .int .i64 k ∧ Hid ((l.take k).all Pl.itemOk = true) ∧ Hid (Below w.heap.size w wr))
  case atStart => exact ⟨0, Nat.le_refl _, Nat.zero_le _, rfl, rfl, Below.refl _ _⟩
  case round =>
    obtain ⟨k, hgk, hk, rfl, HA, HB⟩ := hrel
    obtain ⟨W, rfl⟩ : ∃ W : World, W = wr := ⟨_, rfl⟩
    by_cases hlt : k < n
    · obtain ⟨x, b, off, A2, n2, c2, hx, rfl, hb, hlb, i1, e0, e1⟩ := rItem_get (HL.out.keep (w' := W) fun b hb => HB.out.block b (Nat.lt_of_lt_of_le hb hB)) hlt
      have C := itemBad_c x A2 n2 c2 W B hlb (Nat.le_trans hB HB.out.size)
      have HX := Lib.hid (And.intro (List.mem_of_getElem? hx) (Pl.itemsOk_next hx))
      have f1 : (k : Int) < (n : Nat) := by omega
      have f2 : (0 : Int) ≤ (k : Nat) := by omega
      have f3 : ((k : Nat) : Int).toNat = k := by omega
      clear hx hlb i1
      cases hs : Pl.itemOk x with
      | true =>
        rw [hs] at C
        have HS := Lib.hid hs
        clear hs
        go_wp2_with (go_at_call 92; (with_reducible refine C.mono ?_); clear C; rintro e w1 ⟨rfl, hb1⟩)
        go_roundg (n - (k + 1))
        case measure => omega
        case rel => exact ⟨k + 1, Nat.le_refl _, by omega, by go_num, (by show _ = _; rw [HX.out.2, HA.out, HS.out]; rfl), below_step HB.out hb1⟩
      | false =>
        rw [hs] at C
        have HS := Lib.hid hs
        clear hs
        go_wp2_with (go_at_call 92; (with_reducible refine C.mono ?_); clear C; rintro e w1 ⟨rfl, hb1⟩)
        go_ret
        refine ⟨_, rfl, ?_, below_step HB.out hb1⟩
        rw [decide_eq_false (by omega), ← Bool.not_eq_true, List.all_eq_true]
        intro h
        have := h x HX.out.1
        rw [HS.out] at this; cases this
    · have HK : Hid (l.all Pl.itemOk = true) := by
        have h9 := HA.out
        rw [List.take_of_length_le (by rw [HLN.out]; omega)] at h9
        exact h9
      go_wp2
      go_ret
      exact ⟨_, rfl, by rw [HK.out]; rfl, HB.out⟩
theorem areItems_c (l : List Item) (A : Option Addr) (n c : Nat) (w : World) (B : Nat) (hl : Mm.SlAt rItem w B l A n c) (hB : B ≤ w.heap.size) :
    Calls Try.prog 64 #[.slice A n c] w fun e w' => e = .returned (.bool (Pl.itemsOk l)) ∧ Below w.heap.size w w' := by
  have HLN : Hid (l.length = n) := hl.1
  have C1 : Calls Try.prog 91 #[.slice A n c, .func (Fn.func 92) #[] #[]] w fun e w' => e = .returned (.bool (!l.all Pl.itemOk)) ∧ Below w.heap.size w w' := by
    have C := itemFind_c l A n c w B hl hB
    obtain ⟨ba, hba⟩ : ∃ ba, l.all Pl.itemOk = ba := ⟨_, rfl⟩
    rw [hba] at C ⊢
    clear hba hl
    go_enter Try.func91, Try.ntmps91
    go_wp2_with (go_at_call 108; (with_reducible refine C.mono ?_); clear C; rintro e w1 ⟨i, rfl, hi, hb1⟩)
    have hq : decide ((0 : Int) ≤ i) = !ba := by
      rw [hi]
      by_cases h : i < 0
      · rw [decide_eq_true h, decide_eq_false (by omega)]; rfl
      · rw [decide_eq_false h, decide_eq_true (by omega)]; rfl
    go_ret
    exact ⟨ret_bool hq, hb1⟩
  obtain ⟨ba, hba⟩ : ∃ ba, l.all Pl.itemOk = ba := ⟨_, rfl⟩
  rw [hba] at C1
  have HN : Hid (Pl.itemsOk l = (ba && decide (n ≤ 40))) := by show _ = _; unfold Pl.itemsOk; rw [hba, HLN.out]
  clear hba hl
  by_cases h40 : n ≤ 40
  · have HN2 : Hid (Pl.itemsOk l = ba) := by show _ = _; rw [HN.out, decide_eq_true h40, Bool.and_true]
    have f1 : (n : Int) ≤ 40 := by omega
    rw [HN2.out]
    go_enter Try.func64, Try.ntmps64
    go_wp2_with (go_at_call 91; (with_reducible refine C1.mono ?_); clear C1; rintro e w1 ⟨rfl, hb1⟩)
    cases ba <;> (go_ret; exact ⟨rfl, hb1⟩)
  · have HN2 : Hid (Pl.itemsOk l = false) := by show _ = _; rw [HN.out, decide_eq_false h40, Bool.and_false]
    have f1 : decide ((n : Int) ≤ 40) = false := by simp; omega
    rw [HN2.out]
    go_enter Try.func64, Try.ntmps64
    go_wp2
    go_ret
    exact ⟨rfl, Below.refl _ _⟩
set_option maxRecDepth 100000 in
theorem GoodItems_c (l : List Item) (A : Option Addr) (n c : Nat) (w : World) (B : Nat) (hl : Mm.SlAt rItem w B l A n c) (hB : B ≤ w.heap.size) :
    Calls Try.prog 28 #[.slice A n c] w fun e w' => e = .returned (.bool (Pl.itemsOk l)) ∧ Below w.heap.size w w' := by
  have HL := Lib.hid hl
  have HLN : Hid (l.length = n) := hl.1
  have hnm : n ≤ maxLen := Nat.le_trans hl.2.1 hl.2.2.1
  unfold maxLen at hnm
  clear hl
  go_enter Try.func28, Try.ntmps28
  go_wp2
  go_loopg [7] n (fun g i wr => ∃ k : Nat, n - k ≤ g ∧ k ≤ n ∧ i = .int .i64 k ∧ Hid (Below w.heap.size w wr) ∧ Hid ((l.take k).all Pl.itemOk = true))
  case atStart => exact ⟨0, Nat.le_refl _, Nat.zero_le _, rfl, Below.refl _ _, rfl⟩
  case round =>
    obtain ⟨k, hgk, hk, rfl, HB, HA⟩ := hrel
    obtain ⟨W, rfl⟩ : ∃ W : World, W = wr := ⟨_, rfl⟩
    by_cases hlt : k < n
    · obtain ⟨x, b, off, A2, n2, c2, hx, rfl, hb, hlb, i1, e0, e1⟩ := rItem_get (HL.out.keep (w' := W) fun b hb => HB.out.block b (Nat.lt_of_lt_of_le hb hB)) hlt
      have HX := Lib.hid (And.intro (List.mem_of_getElem? hx) (Pl.itemsOk_next hx))
      have hbw : B ≤ W.heap.size := Nat.le_trans hB HB.out.size
      obtain ⟨W1, hW1⟩ : ∃ W1, W.alloc (.cells #[.slice A2 n2 c2, .int .i64 x.Value] 91) = W1 := ⟨_, rfl⟩
      obtain ⟨gt, hgt⟩ : ∃ gt, W.heap.size = gt := ⟨_, rfl⟩
      have hB1 : Below W.heap.size W W1 := by rw [← hW1]; exact below_new (Below.refl _ _) _
      have hnb : Mm.Blk W1 gt 91 [.slice A2 n2 c2, .int .i64 x.Value] := by rw [← hW1, ← hgt]; exact Mm.Blk.new W _ _
      have CL := GoodLabels_c x.Labels A2 n2 c2 W1 B (hlb.keep fun b hb => hB1.block b (Nat.lt_of_lt_of_le hb hbw)) (Nat.le_trans hbw hB1.size)
      have HNB := Lib.hid hnb
      have HB1 := Lib.hid (below_step HB.out hB1)
      have t0 : W1.cell? ⟨gt, 0, none⟩ = some (.slice A2 n2 c2) := hnb.cell rfl
      have f1 : (k : Int) < (n : Nat) := by omega
      have f2 : (0 : Int) ≤ (k : Nat) := by omega
      have f3 : ((k : Nat) : Int).toNat = k := by omega
      clear hx hlb i1 hnb
      go_upto_region 4 with fail
      clear hW1 hB1 e0 e1
      cases h1 : Pl.labelsOk x.Labels with
      | false =>
        rw [h1] at CL
        have HN : Hid (Pl.itemsOk l = false) := by
          show _ = _
          rw [← Bool.not_eq_true, Pl.itemsOk_iff]
          rintro ⟨h2, _⟩
          have := (Pl.itemOk_iff.1 (h2 x HX.out.1)).1
          rw [h1] at this; cases this
        clear h1
        go_wp2_with (go_at_call 67; (with_reducible refine CL.mono ?_); clear CL; rintro e w2 ⟨rfl, hb2⟩)
        rw [HN.out]
        go_ret
        exact ⟨rfl, below_step HB1.out hb2⟩
      | true =>
        rw [h1] at CL
        cases h2 : Pl.isIn x.Value (-1000000) 1000000 with
        | false =>
          have HN : Hid (Pl.itemsOk l = false) := by
            show _ = _
            rw [← Bool.not_eq_true, Pl.itemsOk_iff]
            rintro ⟨h3, _⟩
            have h4 := h3 x HX.out.1
            unfold Pl.itemOk at h4
            rw [h2, Bool.and_false] at h4; cases h4
          have H2 := Lib.hid h2
          clear h1 h2
          go_wp2_with first
            | (go_at_call 67; (with_reducible refine CL.mono ?_); clear CL; rintro e w2 ⟨rfl, hb2⟩; (have t1 := (HNB.out.bel hb2).cell (show [Value.slice A2 n2 c2, Value.int .i64 x.Value][1]? = some _ from rfl)))
            | (go_at_call 48; (with_reducible refine (l1Item_is H2.out _).mono ?_); rintro e w' ⟨rfl, rfl⟩)
          rw [HN.out]
          go_ret
          exact ⟨rfl, below_step HB1.out hb2⟩
        | true =>
          have HN : Hid ((l.take (k + 1)).all Pl.itemOk = true) := by show _ = _; rw [HX.out.2, HA.out]; unfold Pl.itemOk; rw [h1, h2]; rfl
          have H2 := Lib.hid h2
          clear h1 h2
          go_wp2_with first
            | (go_at_call 67; (with_reducible refine CL.mono ?_); clear CL; rintro e w2 ⟨rfl, hb2⟩; (have t1 := (HNB.out.bel hb2).cell (show [Value.slice A2 n2 c2, Value.int .i64 x.Value][1]? = some _ from rfl)))
            | (go_at_call 48; (with_reducible refine (l1Item_is H2.out _).mono ?_); rintro e w' ⟨rfl, rfl⟩)
          go_roundg (n - (k + 1))
          case measure => omega
          case rel => exact ⟨k + 1, Nat.le_refl _, by omega, by go_num, below_step HB1.out hb2, HN.out⟩
    · obtain rfl : n = k := by omega
      have hall : Pl.itemsOk l = decide ((n : Int) ≤ 40) := by
        have h9 := HA.out
        rw [List.take_of_length_le (by rw [HLN.out]; exact Nat.le_refl _)] at h9
        unfold Pl.itemsOk
        rw [h9, HLN.out, Bool.true_and]
        exact decide_eq_decide.2 (by omega)
      have HN := Lib.hid hall
      have f1 : ¬ (n : Int) < (n : Nat) := by omega
      clear hall
      go_wp2
      go_ret
      rw [HN.out]
      exact ⟨rfl, HB.out⟩
end Go.Proofs.Ytnppcdiicnofpaa

/-
  Contracts: TotalsBy, the program's and the reference's. No conditions.
-/
namespace Go.Proofs.Ytnppcdiicnofpaa
open Go.RowKit
attribute [local go_sem] und_cell World.cell?_alloc_some
set_option maxRecDepth 100000 in
set_option maxHeartbeats 2000000 in
theorem implByOk (l : List Item) (A : Option Addr) (n c : Nat) (names : List ByteArray) (A' : Option Addr) (n' c' : Nat) (w : World) (B : Nat) (HL : Hid (Mm.SlAt rItem w B l A n c)) (HNM : Hid (Mm.SlAt Mm.str w B names A' n' c')) (hB : B ≤ w.heap.size) (HLN : Hid (l.length = n)) (HNL : Hid (names.length = n')) (hn6 : n' ≤ 6) (hca : Pl.itemsOk l = true)
    (CA : Calls Try.prog 64 #[.slice A n c] w fun e w' => e = .returned (.bool true) ∧ Below w.heap.size w w') :
    Calls Try.prog 24 #[.slice A n c, .slice A' n' c'] w (Mm.RetS2 rTotal 50 w (Pl.tby l names).1 (Pl.tby l names).2) := by
  have HF : Hid (Pl.tby l names = (Pl.tcomb (l.map (Pl.titem names)), true)) := if_pos (by rw [hca, HNL.out]; simpa using hn6)
  have hn40 : n ≤ 40 := by have := (Pl.itemsOk_iff.1 hca).2; have := HLN.out; omega
  have HOK := Lib.hid (And.intro (Pl.itemsOk_iff.1 hca).1 (And.intro (Pl.items_tok names hca) (Pl.tby_good names hca)))
  clear hca
  have f0 : ¬ (6 : Int) < (n' : Nat) := by omega
  obtain ⟨i0, hi, hz0, hzs, hzb⟩ := info_parts Try.infoTot
  go_enter Try.func24, Try.ntmps24
  go_wp2_with (go_at_call 64; (with_reducible refine CA.mono ?_); clear CA; rintro e w0 ⟨rfl, hb0⟩)
  have HB0 := Lib.hid hb0
  clear hb0
  go_loopg [6, 19] n (fun g o i wr => ∃ (k nn cc : Nat) (AA : Option Addr) (fp : List Nat) (xs : List Total), n - k ≤ g ∧ k ≤ n ∧ i = .int .i64 k ∧ o = .slice AA nn cc ∧ Hid (nn = xs.length) ∧ Hid (xs = (l.take k).map (Pl.titem names)) ∧ Hid (Mm.SepF [] w wr [Mm.tsl rTotal 50 xs (.slice AA nn cc) fp]))
  case atStart => exact ⟨0, 0, 0, none, [], [], Nat.le_refl _, Nat.zero_le _, rfl, rfl, rfl, rfl, (Mm.SepF.start w).add HB0.out (t := Mm.tsl rTotal 50 [] (.slice none 0 0) []) Mm.SlOwn.nil List.nodup_nil (fun b hb => by cases hb)⟩
  case round =>
    obtain ⟨k, nn, cc, AA, fp, xs, hgk, hk, rfl, rfl, HN, HX, HS⟩ := hrel
    obtain ⟨W, rfl⟩ : ∃ W : World, W = wr := ⟨_, rfl⟩
    have hnk : nn ≤ 40 := by rw [HN.out, HX.out, List.length_map, List.length_take]; omega
    by_cases hlt : k < n
    · have f1 : (k : Int) < (n : Nat) := by omega
      have f2 : (0 : Int) ≤ (k : Nat) := by omega
      have f3 : ((k : Nat) : Int).toNat = k := by omega
      obtain ⟨x, bb, off, A2, n2, c2, hx, rfl, hbb, hlb, i1, e0, e1⟩ := rItem_get (HL.out.keep (w' := W) fun b hb => HS.out.bel0.block b (Nat.lt_of_lt_of_le hb hB)) hlt
      have HTX := Lib.hid (HOK.out.1 x (List.mem_of_getElem? hx))
      have HNX := Lib.hid (Pl.map_next (f := Pl.titem names) hx)
      have HLB := Lib.hid hlb
      have HI := Lib.hid i1
      have hn2 : n2 ≤ 6 := by have := Pl.labelsOk_len (Pl.itemOk_iff.1 HTX.out).1; have := hlb.1; omega
      clear hx hlb i1
      obtain ⟨gt, hgt⟩ : ∃ gt, W.heap.size = gt := ⟨_, rfl⟩
      obtain ⟨W1, hW1⟩ : ∃ W1, W.alloc (.cells #[.slice A2 n2 c2, .int .i64 x.Value] 91) = W1 := ⟨_, rfl⟩
      have HS1 := Lib.hid ((HS.out.alloc' hgt 91 [.slice A2 n2 c2, .int .i64 x.Value]).atW hW1)
      have hB1 : Below W.heap.size W W1 := by rw [← hW1]; exact below_new (Below.refl _ _) _
      have hBW : B ≤ W.heap.size := Nat.le_trans hB HS.out.bel0.size
      have HSD := Lib.hid (HS1.out.step (Below.refl _ _).drew)
      have CK := keepLabels_c x.Labels A2 n2 c2 names A' n' c' W1.drew B (HLB.out.keep fun b hb => hB1.block b (Nat.lt_of_lt_of_le hb hBW)) (HNM.out.keep fun b hb => HSD.out.bel0.block b (Nat.lt_of_lt_of_le hb hB)) (Nat.le_trans hBW hB1.size) (by omega)
      have s0 := HS1.out.cell (k := 0) 0 rfl rfl
      have s1 := HS1.out.cell (k := 1) 0 rfl rfl
      go_upto_region 7 with fail
      clear hW1 hB1 HS e0 e1
      go_region_held3 (fun wx => wx.cell? ⟨gt, 0, none⟩ = some (.slice A2 n2 c2) ∧ wx.cell? ⟨gt, 1, none⟩ = some (.int .i64 x.Value))
        (first | (go_keep; done) | (exact ⟨HS7.out.cell (k := 0) 1 rfl rfl, HS7.out.cell (k := 1) 1 rfl rfl⟩) | (exact ⟨HS4.out.cell (k := 0) 1 rfl rfl, HS4.out.cell (k := 1) 1 rfl rfl⟩) | ((try dsimp only); go_split_ands; refine ⟨?_, ?_⟩ <;> first | (exact HS7.out.cell (k := 0) 1 rfl rfl) | (exact HS7.out.cell (k := 1) 1 rfl rfl) | (exact HS4.out.cell (k := 0) 1 rfl rfl) | (exact HS4.out.cell (k := 1) 1 rfl rfl) | (go_keep; done)))
        (first
          | (go_at_call 65; (with_reducible refine CK.mono ?_); clear CK; rintro e w4 ⟨A3, n3, c3, fp3, rfl, ho, hnd, hnew, hb4⟩; (have HS4 := Lib.hid (HSD.out.add hb4 (t := Mm.tsl rLabel 97 (Pl.keepL x.Labels names) (.slice A3 n3 c3) fp3) ho hnd hnew)); clear ho hnd hnew hb4)
          | (obtain ⟨lc, ho, hnext⟩ := HS4.out.push 2 0 (by decide) rfl rfl (below_new (Below.refl w4.heap.size w4) (.cells #[.slice A3 n3 c3, .int .i64 x.Value, .int .i64 1, .int .i64 x.Value, .int .i64 x.Value] 50)) (x := Pl.titem names x) (cx := [.slice A3 n3 c3, .int .i64 x.Value, .int .i64 1, .int .i64 x.Value, .int .i64 x.Value]) (fun W h => rTotal_own_mk (x := Pl.titem names x) h HI.out (by unfold Mm.I64; show _ ≤ (1 : Int) ∧ (1 : Int) ≤ _; omega) HI.out HI.out); rw [← HN.out] at ho hnext; refine step_append_lies _ (by rfl) _ _ _ (by rfl) 0 50 i0 _ 5 56 Try.underlying27 hi hz0 hzs hzb rfl (by omega) _ nn lc (by rfl) ho ⟨w4.heap.size, 0, none⟩ 1 1 [.slice A3 n3 c3, .int .i64 x.Value, .int .i64 1, .int .i64 x.Value, .int .i64 x.Value] (by rfl) (by rfl) (World.news_of_block (B := w4.heap.size) (cs := #[.slice A3 n3 c3, .int .i64 x.Value, .int .i64 1, .int .i64 x.Value, .int .i64 x.Value]) (t := 50) (fr := (0, 0)) (heap_alloc_new w4 _)) (by simp [Value.oneCell']) (by omega) (by unfold maxLen; omega) (by omega) (Nat.zero_le _) _ rfl ?_; intro gg cap w7 hown1 hgrow hat hlt'; obtain ⟨fp', hs7⟩ := hnext gg cap w7 hown1 hgrow hat; (have HS7 := Lib.hid hs7); clear hs7 hown1 hgrow hat hlt' hnext ho))
      go_wp2
      go_roundg (n - (k + 1))
      case measure => omega
      case rel => exact ⟨k + 1, nn + 1, cap, _, fp', xs ++ [Pl.titem names x], Nat.le_refl _, by omega, by go_num, rfl, (by show _ = _; rw [List.length_append, HN.out]; rfl), (by show _ = _; rw [HNX.out, HX.out]), HS7.out.sel [2] (by decide) rfl⟩
    · obtain rfl : n = k := by omega
      have f1 : ¬ (n : Int) < (n : Nat) := by omega
      have HXS : Hid (xs = l.map (Pl.titem names)) := by show _ = _; rw [HX.out, List.take_of_length_le (by rw [HLN.out]; exact Nat.le_refl _)]
      have CC := combined_c xs AA nn cc W _ ((HS.out.sl 0 rfl).weak (HS.out.sl 0 rfl).olt) (Nat.le_refl _) (fun y hy => by
        rw [HXS.out] at hy
        exact HOK.out.2.1 y hy) (by omega)
      rw [HXS.out, show Pl.tgood (Pl.tcomb (l.map (Pl.titem names))) = (Pl.tcomb (l.map (Pl.titem names)), true) from if_pos HOK.out.2.2] at CC
      go_wp2_with (go_at_call 59; (with_reducible refine CC.mono ?_); clear CC; rintro e w6 ⟨A6, n6, c6, f6, rfl, k1, k2, k3, k4⟩)
      rw [HF.out]
      go_ret2
      exact ⟨A6, n6, c6, f6, rfl, k1, k2, fun b hb => Nat.le_trans HS.out.bel0.size (k3 b hb), below_step HS.out.bel0 k4⟩
set_option maxRecDepth 100000 in
set_option maxHeartbeats 1000000 in
theorem implTotalsBy_c (l : List Item) (A : Option Addr) (n c : Nat) (names : List ByteArray) (A' : Option Addr) (n' c' : Nat) (w : World) (B : Nat) (hl : Mm.SlAt rItem w B l A n c) (hs : Mm.SlAt Mm.str w B names A' n' c') (hB : B ≤ w.heap.size) :
    Calls Try.prog 24 #[.slice A n c, .slice A' n' c'] w (Mm.RetS2 rTotal 50 w (Pl.tby l names).1 (Pl.tby l names).2) := by
  have HL := Lib.hid hl
  have HNM := Lib.hid hs
  have HLN : Hid (l.length = n) := hl.1
  have HNL : Hid (names.length = n') := hs.1
  have hnm : n' ≤ maxLen := Nat.le_trans hs.2.1 hs.2.2.1
  unfold maxLen at hnm
  clear hl hs
  have CA := areItems_c l A n c w B HL.out hB
  cases hca : Pl.itemsOk l with
  | false =>
    have HF : Hid (Pl.tby l names = ([], false)) := if_neg (by rw [hca]; simp)
    rw [hca] at CA
    clear hca
    go_enter Try.func24, Try.ntmps24
    go_wp2_with (go_at_call 64; (with_reducible refine CA.mono ?_); rintro e w1 ⟨rfl, hb1⟩)
    rw [HF.out]
    go_ret2
    exact (Mm.Acc.nil hb1).ret
  | true =>
  rw [hca] at CA
  by_cases hn6 : n' ≤ 6
  · exact implByOk l A n c names A' n' c' w B HL HNM hB HLN HNL hn6 hca CA
  · have HF : Hid (Pl.tby l names = ([], false)) := if_neg (by rw [HNL.out]; simp [hn6])
    have f0 : (6 : Int) < (n' : Nat) := by omega
    clear hca
    go_enter Try.func24, Try.ntmps24
    go_wp2_with (go_at_call 64; (with_reducible refine CA.mono ?_); rintro e w1 ⟨rfl, hb1⟩)
    rw [HF.out]
    go_ret2
    exact (Mm.Acc.nil hb1).ret
set_option maxRecDepth 100000 in
set_option maxHeartbeats 2000000 in
theorem specByOk (l : List Item) (A : Option Addr) (n c : Nat) (names : List ByteArray) (A' : Option Addr) (n' c' : Nat) (w : World) (B : Nat) (HL : Hid (Mm.SlAt rItem w B l A n c)) (HNM : Hid (Mm.SlAt Mm.str w B names A' n' c')) (hB : B ≤ w.heap.size) (HLN : Hid (l.length = n)) (HNL : Hid (names.length = n')) (hn6 : n' ≤ 6) (hca : Pl.itemsOk l = true)
    (CA : Calls Try.prog 28 #[.slice A n c] w fun e w' => e = .returned (.bool true) ∧ Below w.heap.size w w') :
    Calls Try.prog 25 #[.slice A n c, .slice A' n' c'] w (Mm.RetS2 rTotal 50 w (Pl.tby l names).1 (Pl.tby l names).2) := by
  have HF : Hid (Pl.tby l names = (Pl.tcomb (l.map (Pl.titem names)), true)) := if_pos (by rw [hca, HNL.out]; simpa using hn6)
  have hn40 : n ≤ 40 := by have := (Pl.itemsOk_iff.1 hca).2; have := HLN.out; omega
  have HOK := Lib.hid (And.intro (Pl.itemsOk_iff.1 hca).1 (And.intro (Pl.items_tok names hca) (Pl.tby_good names hca)))
  clear hca
  have f0 : ¬ (6 : Int) < (n' : Nat) := by omega
  obtain ⟨i0, hi, hz0, hzs, hzb⟩ := info_parts Try.infoTot
  go_enter Try.func25, Try.ntmps25
  go_wp2_with (go_at_call 28; (with_reducible refine CA.mono ?_); clear CA; rintro e w0 ⟨rfl, hb0⟩)
  have HB0 := Lib.hid hb0
  clear hb0
  go_loopg [6, 19] n (fun g o i wr => ∃ (k nn cc : Nat) (AA : Option Addr) (fp : List Nat) (xs : List Total), n - k ≤ g ∧ k ≤ n ∧ i = .int .i64 k ∧ o = .slice AA nn cc ∧ Hid (nn = xs.length) ∧ Hid (xs = Pl.tcomb ((l.map (Pl.titem names)).take k)) ∧ Hid (Mm.SepF [] w wr [Mm.tsl rTotal 50 xs (.slice AA nn cc) fp]))
  case atStart => exact ⟨0, 0, 0, none, [], [], Nat.le_refl _, Nat.zero_le _, rfl, rfl, rfl, rfl, (Mm.SepF.start w).add HB0.out (t := Mm.tsl rTotal 50 [] (.slice none 0 0) []) Mm.SlOwn.nil List.nodup_nil (fun b hb => by cases hb)⟩
  case round =>
    obtain ⟨k, nn, cc, AA, fp, xs, hgk, hk, rfl, rfl, HN, HX, HS⟩ := hrel
    obtain ⟨W, rfl⟩ : ∃ W : World, W = wr := ⟨_, rfl⟩
    have hT : Pl.TOk k xs := by rw [HX.out]; exact Pl.TOk.comb HOK.out.2.1 k (by rw [List.length_map, HLN.out]; exact hk)
    have HT := Lib.hid hT
    clear hT
    by_cases hlt : k < n
    · have f1 : (k : Int) < (n : Nat) := by omega
      have f2 : (0 : Int) ≤ (k : Nat) := by omega
      have f3 : ((k : Nat) : Int).toNat = k := by omega
      obtain ⟨x, bb, off, A2, n2, c2, hx, rfl, hbb, hlb, i1, e0, e1⟩ := rItem_get (HL.out.keep (w' := W) fun b hb => HS.out.bel0.block b (Nat.lt_of_lt_of_le hb hB)) hlt
      have HTX := Lib.hid (HOK.out.1 x (List.mem_of_getElem? hx))
      have HNX := Lib.hid (Pl.tcomb_next (l := l.map (Pl.titem names)) (k := k) (x := Pl.titem names x) (by rw [List.getElem?_map, hx]; rfl))
      have HLB := Lib.hid hlb
      have HI := Lib.hid i1
      have hn2 : n2 ≤ 6 := by have := Pl.labelsOk_len (Pl.itemOk_iff.1 HTX.out).1; have := hlb.1; omega
      clear hx hlb i1
      obtain ⟨gt, hgt⟩ : ∃ gt, W.heap.size = gt := ⟨_, rfl⟩
      obtain ⟨W1, hW1⟩ : ∃ W1, W.alloc (.cells #[.slice A2 n2 c2, .int .i64 x.Value] 91) = W1 := ⟨_, rfl⟩
      have HS1 := Lib.hid ((HS.out.alloc' hgt 91 [.slice A2 n2 c2, .int .i64 x.Value]).atW hW1)
      have hB1 : Below W.heap.size W W1 := by rw [← hW1]; exact below_new (Below.refl _ _) _
      have hBW : B ≤ W.heap.size := Nat.le_trans hB HS.out.bel0.size
      have HSD := Lib.hid (HS1.out.step (Below.refl _ _).drew)
      have CK := l14Keep_c x.Labels A2 n2 c2 names A' n' c' W1.drew B (HLB.out.keep fun b hb => hB1.block b (Nat.lt_of_lt_of_le hb hBW)) (HNM.out.keep fun b hb => HSD.out.bel0.block b (Nat.lt_of_lt_of_le hb hB)) (Nat.le_trans hBW hB1.size) (by omega)
      have s0 := HS1.out.cell (k := 0) 0 rfl rfl
      have s1 := HS1.out.cell (k := 1) 0 rfl rfl
      go_upto_region 7 with fail
      clear hW1 hB1 HS e0 e1
      have CPF : ∀ (V : World) (A3 : Option Addr) (n3 c3 : Nat) (ft : List Nat), Mm.SepF [] w V [Mm.tsl rLabel 97 (Pl.keepL x.Labels names) (.slice A3 n3 c3) ft, Mm.tblk gt 91 [.slice A2 n2 c2, .int .i64 x.Value], Mm.tsl rTotal 50 xs (.slice AA nn cc) fp] → Calls Try.prog 58 #[.slice AA nn cc, .agg #[.slice A3 n3 c3, .int .i64 x.Value, .int .i64 1, .int .i64 x.Value, .int .i64 x.Value]] V (PutAns fp (Pl.tput xs (Pl.titem names x)) V) := fun V A3 n3 c3 ft hV =>
        l14Put_c xs k (Pl.titem names x) AA A3 nn cc n3 c3 fp V V.heap.size (hV.sl 2 rfl) (hV.ndat (i := 2) rfl) HT.out (by omega) ((hV.sl 0 rfl).weak (hV.sl 0 rfl).olt) (Nat.le_refl _) (Pl.totOk_item names HTX.out)
      have HCP := Lib.hid CPF
      clear CPF
      go_region_held3 (fun wx => wx.cell? ⟨gt, 0, none⟩ = some (.slice A2 n2 c2) ∧ wx.cell? ⟨gt, 1, none⟩ = some (.int .i64 x.Value))
        (first | (go_keep; done) | (exact ⟨HS6.out.cell (k := 0) 1 rfl rfl, HS6.out.cell (k := 1) 1 rfl rfl⟩) | (exact ⟨HS4.out.cell (k := 0) 1 rfl rfl, HS4.out.cell (k := 1) 1 rfl rfl⟩) | ((try dsimp only); go_split_ands; refine ⟨?_, ?_⟩ <;> first | (exact HS6.out.cell (k := 0) 1 rfl rfl) | (exact HS6.out.cell (k := 1) 1 rfl rfl) | (exact HS4.out.cell (k := 0) 1 rfl rfl) | (exact HS4.out.cell (k := 1) 1 rfl rfl) | (go_keep; done)))
        (first
          | (go_at_call 66; (with_reducible refine CK.mono ?_); clear CK; rintro e w4 ⟨A3, n3, c3, fp3, rfl, ho, hnd, hnew, hb4⟩; (have HS4 := Lib.hid (HSD.out.add hb4 (t := Mm.tsl rLabel 97 (Pl.keepL x.Labels names) (.slice A3 n3 c3) fp3) ho hnd hnew)); clear ho hnd hnew hb4)
          | (go_at_call 58; (with_reducible refine (HCP.out _ A3 n3 c3 fp3 HS4.out).mono ?_); rintro e w6 ⟨A6, n6, c6, fp6, rfl, hS6⟩; (have HS6 := Lib.hid (HS4.out.callAll 2 rfl hS6)); clear hS6))
      have hn6' : n6 = (Pl.tput xs (Pl.titem names x)).length := by obtain ⟨_, _, _, hv, q1, _⟩ := (HS6.out.sl 3 rfl).form; injection hv with _ q2 _; omega
      have HN6 := Lib.hid hn6'
      clear hn6'
      go_wp2
      go_roundg (n - (k + 1))
      case measure => omega
      case rel => exact ⟨k + 1, n6, c6, A6, fp6, _, Nat.le_refl _, by omega, by go_num, rfl, HN6.out, (by show _ = _; rw [HNX.out, HX.out]), HS6.out.sel [3] (by decide) rfl⟩
    · obtain rfl : n = k := by omega
      have f1 : ¬ (n : Int) < (n : Nat) := by omega
      have HXS : Hid (xs = Pl.tcomb (l.map (Pl.titem names))) := by show _ = _; rw [HX.out, List.take_of_length_le (by rw [List.length_map, HLN.out]; exact Nat.le_refl _)]
      go_wp2
      rw [HF.out, ← HXS.out]
      go_ret2
      have HS2 := HS.out
      exact ⟨_, _, _, fp, rfl, HS2.sl 0 rfl, HS2.ndat (i := 0) rfl, fun b hb => (HS2.new b (by simpa [Mm.tsl] using hb)).resolve_left (fun h => by cases h), HS2.bel0⟩
set_option maxRecDepth 100000 in
set_option maxHeartbeats 1000000 in
theorem specTotalsBy_c (l : List Item) (A : Option Addr) (n c : Nat) (names : List ByteArray) (A' : Option Addr) (n' c' : Nat) (w : World) (B : Nat) (hl : Mm.SlAt rItem w B l A n c) (hs : Mm.SlAt Mm.str w B names A' n' c') (hB : B ≤ w.heap.size) :
    Calls Try.prog 25 #[.slice A n c, .slice A' n' c'] w (Mm.RetS2 rTotal 50 w (Pl.tby l names).1 (Pl.tby l names).2) := by
  have HL := Lib.hid hl
  have HNM := Lib.hid hs
  have HLN : Hid (l.length = n) := hl.1
  have HNL : Hid (names.length = n') := hs.1
  have hnm : n' ≤ maxLen := Nat.le_trans hs.2.1 hs.2.2.1
  unfold maxLen at hnm
  clear hl hs
  have CA := GoodItems_c l A n c w B HL.out hB
  cases hca : Pl.itemsOk l with
  | false =>
    have HF : Hid (Pl.tby l names = ([], false)) := if_neg (by rw [hca]; simp)
    rw [hca] at CA
    clear hca
    go_enter Try.func25, Try.ntmps25
    go_wp2_with (go_at_call 28; (with_reducible refine CA.mono ?_); rintro e w1 ⟨rfl, hb1⟩)
    rw [HF.out]
    go_ret2
    exact (Mm.Acc.nil hb1).ret
  | true =>
  rw [hca] at CA
  by_cases hn6 : n' ≤ 6
  · exact specByOk l A n c names A' n' c' w B HL HNM hB HLN HNL hn6 hca CA
  · have HF : Hid (Pl.tby l names = ([], false)) := if_neg (by rw [HNL.out]; simp [hn6])
    have f0 : (6 : Int) < (n' : Nat) := by omega
    clear hca
    go_enter Try.func25, Try.ntmps25
    go_wp2_with (go_at_call 28; (with_reducible refine CA.mono ?_); rintro e w1 ⟨rfl, hb1⟩)
    rw [HF.out]
    go_ret2
    exact (Mm.Acc.nil hb1).ret
end Go.Proofs.Ytnppcdiicnofpaa
