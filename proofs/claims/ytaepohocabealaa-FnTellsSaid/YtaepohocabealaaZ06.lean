/-
  Joined texts, in build order: Th, Ti, Tj, Tk, Wc, Hd, Cm, Tm, St. Each part says what it proves; no conditions beyond those that a part names.
-/
import Derived.Test.YtaepohocabealaaZ01
import Derived.Test.YtaepohocabealaaZ02
import Derived.Test.YtaepohocabealaaZ03
import Derived.Test.YtaepohocabealaaZ04
import Derived.Test.YtaepohocabealaaZ05
import Derived.Lib.Hide
import Derived.WalkSpells
/-
  Contracts: what is read of a teller (chapter 10): one text, whether a list of texts holds a long one, whether two lists of numbers are equal. No conditions.
-/
namespace Go.Proofs.Ytaepohocabealaa
open Go.RowKit
attribute [local go_sem] und_cell cha_cell World.cell?_alloc_some
def Pl.txtOk (t : Tell) (x : Told) : Bool := Pl.isIn x.No 0 (((Pl.tAt t x.Who).length : Int) - 1) && ((Pl.sayAt t x).toList == x.Text.toList)
theorem Pl.said_eq {t : Tell} {x : Told} : Pl.saidOk t x = (Pl.isIn x.Who 0 ((t.Texts.length : Int) - 1) && Pl.txtOk t x) := by unfold Pl.saidOk Pl.txtOk; rw [Bool.and_assoc]
theorem within_is {n a b : Int} {r : Bool} (h : Pl.isIn n a b = r) (w : World) : Calls Try.prog 47 #[.int .i64 n, .int .i64 a, .int .i64 b] w fun e w' => e = .returned (.bool r) ∧ w = w' := h ▸ within_c n a b w
theorem l1In_is {n a b : Int} {r : Bool} (h : Pl.isIn n a b = r) (w : World) : Calls Try.prog 56 #[.int .i64 n, .int .i64 a, .int .i64 b] w fun e w' => e = .returned (.bool r) ∧ w = w' := h ▸ l1In_c n a b w
set_option maxRecDepth 100000 in
set_option maxHeartbeats 1000000 in
theorem isText_c (t : Tell) (x : Told) (g : Nat) (A0 : Option Addr) (n0 c0 : Nat) (s1 s2 s3 s4 : Value) (w : World) (B : Nat) (hb : Mm.Blk w g 31 [.slice A0 n0 c0, s1, s2, s3, s4]) (hl : Mm.SlAt strs w B t.Texts A0 n0 c0) (hB : B ≤ w.heap.size) (h0 : 0 ≤ x.Who) (h1 : x.Who < (n0 : Nat)) (hno : Mm.I64 x.No) :
    Calls Try.prog 96 #[.pointer (some ⟨g, 0, none⟩), .agg #[.int .i64 x.Who, .int .i64 x.No, .string x.Text]] w fun e w' => e = .returned (.bool (Pl.txtOk t x)) ∧ Below w.heap.size w w' := by
  obtain ⟨who, no, tx⟩ := x
  dsimp only at h0 h1 hno ⊢
  obtain ⟨k, rfl⟩ : ∃ k : Nat, who = k := ⟨who.toNat, by omega⟩
  have hn0 : n0 ≤ maxLen := Nat.le_trans hl.2.1 hl.2.2.1
  obtain ⟨r, b0, off, A1, n1, c1, hx, rfl, hb0, hr, e0⟩ := strs_get hl (show k < n0 by omega)
  have hn1 : n1 ≤ maxLen := Nat.le_trans hr.2.1 hr.2.2.1
  have HT : Hid (Pl.tAt t (k : Int) = r) := Pl.tAt_of (by simpa using hx)
  have HRL := Lib.hid hr.1
  have HK := Lib.hid (hb.alloc (.cells #[.int .i64 k, .int .i64 no, .string tx] 52))
  have HN := Lib.hid (Mm.Blk.new w 52 [.int .i64 k, .int .i64 no, .string tx])
  have hbel : Below w.heap.size w (w.alloc (.cells #[.int .i64 k, .int .i64 no, .string tx] 52)) := below_new (Below.refl _ _) _
  have HBL := Lib.hid hbel
  have HR := Lib.hid (hr.keep (w' := w.alloc (.cells #[.int .i64 k, .int .i64 no, .string tx] 52)) fun b hb' => hbel.block b (by omega))
  have e1 := below_some hbel e0
  have d0 := HK.out.cell (i := 0) rfl
  have b1 := HN.out.cell (i := 0) rfl
  have b2 := HN.out.cell (i := 1) rfl
  have b3 := HN.out.cell (i := 2) rfl
  have f1' : ((k : Nat) : Int) < (n0 : Nat) := by omega
  have f2' : (0 : Int) ≤ (k : Nat) := by omega
  have f3' : ((k : Nat) : Int).toNat = k := by omega
  have HNO := Lib.hid hno
  have HB' := Lib.hid (show B ≤ (w.alloc (.cells #[.int .i64 k, .int .i64 no, .string tx] 52)).heap.size from Nat.le_trans hB hbel.size)
  clear hl hr hx hb hno e0 hbel
  unfold maxLen at hn0 hn1
  have hw1 : IntKind.i64.wrap ((n1 : Int) - 1) = (n1 : Int) - 1 := IntWalk.i64_in _ (by omega)
  go_enter Try.func96, Try.ntmps96
  go_wp2
  refine wp_region_und (by kernel_rfl) (by kernel_rfl) ?_
  repeat (go_big_quiet_step ((first | fail)))
  refine wpQuiet_nil ?_
  intro X hX
  replace d0 := below_some hX d0
  replace e1 := below_some hX e1
  replace b1 := below_some hX b1
  replace b2 := below_some hX b2
  replace b3 := below_some hX b3
  replace HBL := Lib.hid (below_step HBL.out hX)
  replace HR := Lib.hid (HR.out.keep fun b hb' => hX.block b (Nat.lt_of_lt_of_le hb' HB'.out))
  clear hX
  by_cases hin : 0 ≤ no ∧ no < (n1 : Nat)
  · obtain ⟨j, rfl⟩ : ∃ j : Nat, no = j := ⟨no.toNat, by omega⟩
    obtain ⟨y, b9, off9, hy, rfl, hb9, hys, e2⟩ := str_get HR.out (show j < n1 by omega)
    have q : Pl.isIn (j : Int) 0 ((n1 : Int) - 1) = true := by unfold Pl.isIn; simp; omega
    have HF : Hid (Pl.txtOk t ⟨k, j, tx⟩ = (y.toList == tx.toList)) := by
      show _ = _
      unfold Pl.txtOk Pl.sayAt
      dsimp only
      rw [HT.out, HRL.out, q, List.getD_eq_getElem?_getD, show ((j : Nat) : Int).toNat = j by omega, hy]
      rfl
    have f4' : ((j : Nat) : Int) < (n1 : Nat) := by omega
    have f5' : (0 : Int) ≤ (j : Nat) := by omega
    have f6' : ((j : Nat) : Int).toNat = j := by omega
    have HY := Lib.hid hy
    clear hy hin
    go_wp2
    refine wp_region_und (by kernel_rfl) (by kernel_rfl) ?_
    repeat (go_big_quiet_step ((first | (go_at_call 47; exact und_same _ (within_is q _)))))
    refine wpQuiet_nil ?_
    intro X hX
    go_wp2
    go_ret
    exact ⟨ret_bool HF.out.symm, below_step HBL.out hX⟩
  · have q : Pl.isIn no 0 ((n1 : Int) - 1) = false := by unfold Pl.isIn; simp; omega
    have HF : Hid (Pl.txtOk t ⟨k, no, tx⟩ = false) := by
      show _ = _
      unfold Pl.txtOk
      dsimp only
      rw [HT.out, HRL.out, q]
      rfl
    have HI := Lib.hid hin
    clear hin
    go_wp2
    refine wp_region_und (by kernel_rfl) (by kernel_rfl) ?_
    repeat (go_big_quiet_step ((first | (go_at_call 47; exact und_same _ (within_is q _)))))
    refine wpQuiet_nil ?_
    intro X hX
    go_wp2
    go_ret
    exact ⟨ret_bool HF.out.symm, below_step HBL.out hX⟩
theorem idxStr_c (C : FuncId) (hC : ∀ (a : Array Value) (w : World), (callFunc C a).run Try.prog w = .ok (.enter C a) w) (p : ByteArray → Bool) (hp : ∀ (x : ByteArray) (w : World), x.size ≤ maxLen → Calls Try.prog C #[.string x] w fun e w' => e = .returned (.bool (p x)) ∧ w = w')
    (l : List ByteArray) (A : Option Addr) (n c : Nat) (w : World) (B : Nat) (hl : Mm.SlAt Mm.str w B l A n c) (hB : B ≤ w.heap.size) :
    Calls Try.prog 114 #[.slice A n c, .func (Fn.func C) #[] #[]] w fun e w' => e = .returned (.int .i64 (Pl.ixp p l)) ∧ w = w' := by
  have hn : n ≤ 9223372036854775807 := by have := hl.2.1; have := hl.2.2.1; unfold maxLen at this; omega
  have hlen : Hid (l.length = n) := hl.1
  have HL : Hid (Mm.SlAt Mm.str w B l A n c) := hl
  have HP := Lib.hid hp
  clear hl hp
  go_enter Try.func114, Try.ntmps114
  go_wp2
  go_loop [5, 8] (fun _ i => ∃ k : Nat, k ≤ n ∧ i = .int .i64 k ∧ ∀ i x, i < k → l[i]? = some x → p x = false) (fun _ i => n - (intOf i).toNat)
  case atStart => exact ⟨0, Nat.zero_le _, rfl, fun i x hi => absurd hi (Nat.not_lt_zero _)⟩
  case round =>
    obtain ⟨k, hk, rfl, hall⟩ := hrel
    have HA : Hid (∀ i x, i < k → l[i]? = some x → p x = false) := hall
    clear hall
    by_cases hlt : k < n
    · obtain ⟨x, b, off, hx, rfl, hb, hxs, c1⟩ := str_get HL.out hlt
      have HX : Hid (l[k]? = some x) := hx
      have HXS := Lib.hid hxs
      clear hx hxs
      cases hs : p x
      · go_wp2_with (refine (HP.out x _ HXS.out).mono ?_; rintro e w1 ⟨rfl, rfl⟩)
        go_round
        case rel => exact ⟨k + 1, by omega, by go_num, fun i y hi hy => by
          rcases Nat.lt_succ_iff_lt_or_eq.1 hi with h1 | rfl
          · exact HA.out i y h1 hy
          · rw [HX.out] at hy; injection hy with hy; rw [← hy]; exact hs⟩
        case measure => simp [intOf]; omega
      · have HF : Hid (Pl.ixp p l = (k : Int)) := Pl.ixp_at HX.out hs HA.out
        go_wp2_with (refine (HP.out x _ HXS.out).mono ?_; rintro e w1 ⟨rfl, rfl⟩)
        go_ret
        exact ⟨ret_int HF.out.symm, rfl⟩
    · have HF : Hid (Pl.ixp p l = -1) := Pl.ixp_none (by rw [hlen.out]; omega) HA.out
      go_wp2
      go_ret
      exact ⟨ret_int HF.out.symm, rfl⟩
theorem hasStr_c (C : FuncId) (hC : ∀ (a : Array Value) (w : World), (callFunc C a).run Try.prog w = .ok (.enter C a) w) (p : ByteArray → Bool) (hp : ∀ (x : ByteArray) (w : World), x.size ≤ maxLen → Calls Try.prog C #[.string x] w fun e w' => e = .returned (.bool (p x)) ∧ w = w')
    (l : List ByteArray) (A : Option Addr) (n c : Nat) (w : World) (B : Nat) (hl : Mm.SlAt Mm.str w B l A n c) (hB : B ≤ w.heap.size) :
    Calls Try.prog 94 #[.slice A n c, .func (Fn.func C) #[] #[]] w fun e w' => e = .returned (.bool (l.any p)) ∧ w = w' := by
  have HL : Hid (Mm.SlAt Mm.str w B l A n c) := hl
  have HP := Lib.hid hp
  have hC := Lib.hid hC
  clear hl hp
  have hi := Pl.ixp_ge p l
  go_enter Try.func94, Try.ntmps94
  go_wp2_with (go_at_call 114; refine (idxStr_c C hC.out p HP.out l _ _ _ _ B HL.out hB).mono ?_; rintro e w1 ⟨rfl, rfl⟩)
  go_ret
  exact ⟨ret_bool (Pl.ixp_any p l).symm, rfl⟩
theorem isTell1_e (a : Array Value) (w : World) : (callFunc 95 a).run Try.prog w = .ok (.enter 95 a) w := by kernel_rfl
theorem isTell1_c (x : ByteArray) (w : World) (hx : x.size ≤ maxLen) :
    Calls Try.prog 95 #[.string x] w fun e w' => e = .returned (.bool (decide ((20 : Int) < (x.size : Nat)))) ∧ w = w' := by
  unfold maxLen at hx
  go_enter Try.func95, Try.ntmps95
  go_wp2
  go_ret
  exact ⟨rfl, rfl⟩
set_option maxHeartbeats 1000000 in
theorem equalInts_c (l l' : List Int) (A A' : Option Addr) (n n' c c' : Nat) (w : World) (B : Nat) (hl : Mm.SlAt Mm.int w B l A n c) (hl' : Mm.SlAt Mm.int w B l' A' n' c') (hB : B ≤ w.heap.size) :
    Calls Try.prog 97 #[.slice A n c, .slice A' n' c'] w fun e w' => e = .returned (.bool (decide (l = l'))) ∧ Below w.heap.size w w' := by
  have hn : n ≤ maxLen := Nat.le_trans hl.2.1 hl.2.2.1
  have hn' : n' ≤ maxLen := Nat.le_trans hl'.2.1 hl'.2.2.1
  have hq := hl.1
  have hq' := hl'.1
  have HL := Lib.hid (And.intro hl hl')
  clear hl hl'
  unfold maxLen at hn hn'
  by_cases he : n = n'
  · subst he
    have f1 : (((n : Nat) : Int) != ((n : Nat) : Int)) = false := by simp
    have HQ := Lib.hid (And.intro hq hq')
    clear hq hq'
    go_enter Try.func97, Try.ntmps97
    go_wp2
    go_loopw [5, 13] (fun _ i wr => ∃ k : Nat, k ≤ n ∧ i = .int .i64 k ∧ Below w.heap.size w wr ∧ ∀ i x, i < k → l[i]? = some x → l'[i]? = some x) (fun _ i _ => n - (intOf i).toNat)
    case atStart => exact ⟨0, Nat.zero_le _, rfl, Below.refl _ _, fun i x hi => absurd hi (Nat.not_lt_zero _)⟩
    case round =>
      obtain ⟨k, hk, rfl, hbel, hall⟩ := hrel
      rename_i wr _
      have HA : Hid (∀ (i : Nat) (x : Int), i < k → l[i]? = some x → l'[i]? = some x) := hall
      clear hall
      by_cases hlt : k < n
      · obtain ⟨x, b, off, hx, rfl, hb, hxi, c1⟩ := int_get HL.out.1 hlt
        obtain ⟨x', b', off', hx', rfl, hb', hxi', c1'⟩ := int_get HL.out.2 hlt
        replace c1 := below_some hbel c1
        replace c1' := below_some hbel c1'
        have HX := Lib.hid (And.intro hx hx')
        have f3 : ((k : Nat) : Int) < (n : Nat) := by omega
        have f4 : (0 : Int) ≤ (k : Nat) := by omega
        clear hx hx'
        by_cases hs : x = x'
        · subst hs
          have f2 : (x != x) = false := by simp
          go_wp2
          refine wp_region_und (by kernel_rfl) (by kernel_rfl) ?_
          repeat (go_big_quiet_step ((first | fail)))
          refine wpQuiet_nil ?_
          intro X hX
          go_wp2
          go_roundw
          case rel => exact ⟨k + 1, by omega, by go_num, below_step hbel hX, fun i y hi hy => by
            rcases Nat.lt_succ_iff_lt_or_eq.1 hi with h1 | rfl
            · exact HA.out i y h1 hy
            · rw [HX.out.1] at hy; injection hy with hy; rw [← hy]; exact HX.out.2⟩
          case measure => simp [intOf]; omega
        · have f2 : (x != x') = true := by simpa using hs
          have HF : Hid (decide (l = l') = false) := by
            show _ = _
            rw [decide_eq_false]
            rintro rfl
            have h5 := HX.out.1.symm.trans HX.out.2
            injection h5 with h5
            exact hs h5
          have HS := Lib.hid hs
          clear hs
          go_wp2
          refine wp_region_und (by kernel_rfl) (by kernel_rfl) ?_
          repeat (go_big_quiet_step ((first | fail)))
          refine wpQuiet_nil ?_
          intro X hX
          go_wp2
          go_ret
          exact ⟨ret_bool HF.out.symm, below_step hbel hX⟩
      · have HF : Hid (decide (l = l') = true) := by
          show _ = _
          rw [decide_eq_true]
          apply List.ext_getElem?
          intro i
          rcases Nat.lt_or_ge i n with hi | hi
          · have hy := List.getElem?_eq_getElem (show i < l.length by have := HQ.out.1; omega)
            rw [hy, HA.out i _ (by omega) hy]
          · rw [List.getElem?_eq_none (by have := HQ.out.1; omega), List.getElem?_eq_none (by have := HQ.out.2; omega)]
        go_wp2
        go_ret
        exact ⟨ret_bool HF.out.symm, hbel⟩
  · have f1 : (((n : Nat) : Int) != ((n' : Nat) : Int)) = true := by simp; omega
    have HF : Hid (decide (l = l') = false) := by
      show _ = _
      rw [decide_eq_false]
      rintro rfl
      omega
    have HQ := Lib.hid (And.intro hq hq')
    have HE := Lib.hid he
    clear hq hq' he
    go_enter Try.func97, Try.ntmps97
    go_wp2
    go_ret
    exact ⟨ret_bool HF.out.symm, Below.refl _ _⟩
set_option maxHeartbeats 1000000 in
theorem l1Same_c (l l' : List Int) (A A' : Option Addr) (n n' c c' : Nat) (w : World) (B : Nat) (hl : Mm.SlAt Mm.int w B l A n c) (hl' : Mm.SlAt Mm.int w B l' A' n' c') (hB : B ≤ w.heap.size) :
    Calls Try.prog 59 #[.slice A n c, .slice A' n' c'] w fun e w' => e = .returned (.bool (decide (l = l'))) ∧ Below w.heap.size w w' := by
  have hn : n ≤ maxLen := Nat.le_trans hl.2.1 hl.2.2.1
  have hn' : n' ≤ maxLen := Nat.le_trans hl'.2.1 hl'.2.2.1
  have hq := hl.1
  have hq' := hl'.1
  have HL := Lib.hid (And.intro hl hl')
  clear hl hl'
  unfold maxLen at hn hn'
  by_cases he : n = n'
  · subst he
    have f1 : (((n : Nat) : Int) != ((n : Nat) : Int)) = false := by simp
    have HQ := Lib.hid (And.intro hq hq')
    clear hq hq'
    go_enter Try.func59, Try.ntmps59
    go_wp2
    go_loopw [5, 13] (fun _ i wr => ∃ k : Nat, k ≤ n ∧ i = .int .i64 k ∧ Below w.heap.size w wr ∧ ∀ i x, i < k → l[i]? = some x → l'[i]? = some x) (fun _ i _ => n - (intOf i).toNat)
    case atStart => exact ⟨0, Nat.zero_le _, rfl, Below.refl _ _, fun i x hi => absurd hi (Nat.not_lt_zero _)⟩
    case round =>
      obtain ⟨k, hk, rfl, hbel, hall⟩ := hrel
      rename_i wr _
      have HA : Hid (∀ (i : Nat) (x : Int), i < k → l[i]? = some x → l'[i]? = some x) := hall
      clear hall
      by_cases hlt : k < n
      · obtain ⟨x, b, off, hx, rfl, hb, hxi, c1⟩ := int_get HL.out.1 hlt
        obtain ⟨x', b', off', hx', rfl, hb', hxi', c1'⟩ := int_get HL.out.2 hlt
        replace c1 := below_some hbel c1
        replace c1' := below_some hbel c1'
        have HX := Lib.hid (And.intro hx hx')
        have f3 : ((k : Nat) : Int) < (n : Nat) := by omega
        have f4 : (0 : Int) ≤ (k : Nat) := by omega
        clear hx hx'
        by_cases hs : x = x'
        · subst hs
          have f2 : (x != x) = false := by simp
          go_wp2
          refine wp_region_und (by kernel_rfl) (by kernel_rfl) ?_
          repeat (go_big_quiet_step ((first | fail)))
          refine wpQuiet_nil ?_
          intro X hX
          go_wp2
          go_roundw
          case rel => exact ⟨k + 1, by omega, by go_num, below_step hbel hX, fun i y hi hy => by
            rcases Nat.lt_succ_iff_lt_or_eq.1 hi with h1 | rfl
            · exact HA.out i y h1 hy
            · rw [HX.out.1] at hy; injection hy with hy; rw [← hy]; exact HX.out.2⟩
          case measure => simp [intOf]; omega
        · have f2 : (x != x') = true := by simpa using hs
          have HF : Hid (decide (l = l') = false) := by
            show _ = _
            rw [decide_eq_false]
            rintro rfl
            have h5 := HX.out.1.symm.trans HX.out.2
            injection h5 with h5
            exact hs h5
          have HS := Lib.hid hs
          clear hs
          go_wp2
          refine wp_region_und (by kernel_rfl) (by kernel_rfl) ?_
          repeat (go_big_quiet_step ((first | fail)))
          refine wpQuiet_nil ?_
          intro X hX
          go_wp2
          go_ret
          exact ⟨ret_bool HF.out.symm, below_step hbel hX⟩
      · have HF : Hid (decide (l = l') = true) := by
          show _ = _
          rw [decide_eq_true]
          apply List.ext_getElem?
          intro i
          rcases Nat.lt_or_ge i n with hi | hi
          · have hy := List.getElem?_eq_getElem (show i < l.length by have := HQ.out.1; omega)
            rw [hy, HA.out i _ (by omega) hy]
          · rw [List.getElem?_eq_none (by have := HQ.out.1; omega), List.getElem?_eq_none (by have := HQ.out.2; omega)]
        go_wp2
        go_ret
        exact ⟨ret_bool HF.out.symm, hbel⟩
  · have f1 : (((n : Nat) : Int) != ((n' : Nat) : Int)) = true := by simp; omega
    have HF : Hid (decide (l = l') = false) := by
      show _ = _
      rw [decide_eq_false]
      rintro rfl
      omega
    have HQ := Lib.hid (And.intro hq hq')
    have HE := Lib.hid he
    clear hq hq' he
    go_enter Try.func59, Try.ntmps59
    go_wp2
    go_ret
    exact ⟨ret_bool HF.out.symm, Below.refl _ _⟩
end Go.Proofs.Ytaepohocabealaa

/-
  Contracts: whether a teller is good, the program's (chapter 10). No conditions.
-/
namespace Go.Proofs.Ytaepohocabealaa
open Go.RowKit
attribute [local go_sem] und_cell cha_cell World.cell?_alloc_some
theorem Pl.text_bad {t : Tell} {k : Nat} {l : List ByteArray} {a b : Int} (h1 : t.Texts[k]? = some l) (h2 : t.Next[k]? = some a) (h3 : t.Heard[k]? = some b) (h : ¬ (l.length ≤ 20 ∧ l.any (fun s => decide ((20 : Int) < (s.size : Nat))) = false ∧ Pl.isIn a 0 l.length = true ∧ Pl.isIn b 0 a = true)) : Pl.goodTell t = false := by
  refine Pl.good_bad2 (List.getElem?_eq_some_iff.1 h1).1 ?_
  rw [Pl.textOk_eq h1 h2 h3, ← Bool.not_eq_true]
  intro hh
  simp only [Bool.and_eq_true, decide_eq_true_eq, List.all_eq_true] at hh
  refine h ⟨hh.1.1.1, ?_, hh.1.2, hh.2⟩
  rw [List.any_eq_false]
  intro x hx
  have := hh.1.1.2 x hx
  simp; omega
theorem Pl.text_good {t : Tell} {k : Nat} {l : List ByteArray} {a b : Int} (h1 : t.Texts[k]? = some l) (h2 : t.Next[k]? = some a) (h3 : t.Heard[k]? = some b) (h : l.length ≤ 20 ∧ l.any (fun s => decide ((20 : Int) < (s.size : Nat))) = false ∧ Pl.isIn a 0 l.length = true ∧ Pl.isIn b 0 a = true) : Pl.textOk t k = true := by
  rw [Pl.textOk_eq h1 h2 h3]
  simp only [Bool.and_eq_true, decide_eq_true_eq, List.all_eq_true]
  refine ⟨⟨⟨h.1, fun x hx => ?_⟩, h.2.2.1⟩, h.2.2.2⟩
  have := List.any_eq_false.1 h.2.1 x hx
  simp at this; omega
theorem Pl.note_b (t : Tell) (who no : Int) (tx : ByteArray) : Pl.noteOk t ⟨true, ⟨who, no, tx⟩⟩ = (Pl.isIn who 0 ((t.Texts.length : Int) - 1) && (Pl.isIn no 0 (Pl.iAt t.Next who) && tx.toList.isEmpty)) := rfl
theorem Pl.note_f (t : Tell) (x : Told) : Pl.noteOk t ⟨false, x⟩ = (Pl.isIn x.Who 0 ((t.Texts.length : Int) - 1) && Pl.txtOk t x) := by
  unfold Pl.noteOk
  rw [if_neg (by simp), Pl.said_eq]
  cases Pl.isIn x.Who 0 ((t.Texts.length : Int) - 1) <;> simp
theorem ba_isEmpty {x : ByteArray} (h : x.toList.isEmpty = true) : x = ⟨#[]⟩ := by
  have h1 : x.toList = [] := by simpa using h
  rw [Lib.toList_data] at h1
  cases x with
  | mk d => congr; simpa using h1
theorem Pl.log_no {t : Tell} {s : List Int} {x : Told} (h : Pl.saidOk t x = false ∨ x.No ≠ Pl.iAt s x.Who) : Pl.logStep t s x = none := by
  unfold Pl.logStep
  rw [if_neg]
  intro hh
  rw [Bool.and_eq_true, decide_eq_true_eq] at hh
  rcases h with h | h
  · rw [h] at hh; exact absurd hh.1 (by simp)
  · exact h hh.2
theorem Pl.log_yes {t : Tell} {s : List Int} {x : Told} (h : Pl.saidOk t x = true) (h2 : x.No = Pl.iAt s x.Who) : Pl.logStep t s x = some (s.set x.Who.toNat (Pl.iAt s x.Who + 1)) := by
  unfold Pl.logStep
  rw [if_pos (by rw [h, Bool.true_and, decide_eq_true_eq]; exact h2)]
theorem Pl.text_len {t : Tell} {k : Nat} (h : Pl.textOk t k = true) (h1 : k < t.Texts.length) (h2 : k < t.Next.length) (h3 : k < t.Heard.length) : (Pl.tAt t (k : Int)).length ≤ 20 := by
  have e1 := List.getElem?_eq_getElem h1
  rw [Pl.textOk_eq e1 (List.getElem?_eq_getElem h2) (List.getElem?_eq_getElem h3)] at h
  simp only [Bool.and_eq_true, decide_eq_true_eq] at h
  rw [Pl.tAt_of (t := t) (k := (k : Int)) (l := t.Texts[k]) (by simp)]
  exact h.1.1.1
theorem Pl.txt_no {t : Tell} {x : Told} (h : Pl.txtOk t x = true) : 0 ≤ x.No ∧ x.No < (Pl.tAt t x.Who).length := by
  unfold Pl.txtOk at h
  rw [Bool.and_eq_true, Pl.isIn_iff'] at h
  omega
set_option maxRecDepth 100000 in
set_option maxHeartbeats 4000000 in
theorem isTell_c (t : Tell) (cs : List Value) (w : World) (B : Nat) (hh : rTell.at_ w B t cs) (hB : B ≤ w.heap.size) :
    Calls Try.prog 53 #[.agg cs.toArray] w fun e w' => e = .returned (.bool (Pl.goodTell t)) ∧ Below w.heap.size w w' := by
  obtain ⟨A0, n0, c0, A1, n1, c1, A2, n2, c2, A3, n3, c3, A4, n4, c4, rfl, r0, r1, r2, r3, r4⟩ := rTell_at hh
  have m0 : n0 ≤ maxLen := Nat.le_trans r0.2.1 r0.2.2.1
  have m1 : n1 ≤ maxLen := Nat.le_trans r1.2.1 r1.2.2.1
  have m2 : n2 ≤ maxLen := Nat.le_trans r2.2.1 r2.2.2.1
  have m3 : n3 ≤ maxLen := Nat.le_trans r3.2.1 r3.2.2.1
  have m4 : n4 ≤ maxLen := Nat.le_trans r4.2.1 r4.2.2.1
  unfold maxLen at m0 m1 m2 m3 m4
  have HLN := Lib.hid (And.intro r0.1 (And.intro r1.1 (And.intro r2.1 (And.intro r3.1 r4.1))))
  have hbel : Below w.heap.size w (w.alloc (.cells #[.slice A0 n0 c0, .slice A1 n1 c1, .slice A2 n2 c2, .slice A3 n3 c3, .slice A4 n4 c4] 31)) := below_new (Below.refl _ _) _
  have HKK := Lib.hid (Mm.Blk.new w 31 [.slice A0 n0 c0, .slice A1 n1 c1, .slice A2 n2 c2, .slice A3 n3 c3, .slice A4 n4 c4])
  have HR0 := Lib.hid (r0.keep fun b hb => hbel.block b (by omega))
  have HR1 := Lib.hid (r1.keep fun b hb => hbel.block b (by omega))
  have HR2 := Lib.hid (r2.keep fun b hb => hbel.block b (by omega))
  have HR3 := Lib.hid (r3.keep fun b hb => hbel.block b (by omega))
  have HR4 := Lib.hid (r4.keep fun b hb => hbel.block b (by omega))
  have HBW := Lib.hid (Nat.le_trans hB hbel.size)
  have HT0 := Lib.hid hbel
  clear hbel r0 r1 r2 r3 r4 hh hB
  go_enter Try.func53, Try.ntmps53
  go_upto_region 1 with fail
  obtain ⟨gt, hgt⟩ : ∃ gt, w.heap.size = gt := ⟨_, rfl⟩
  obtain ⟨W0, hW0⟩ : ∃ W0, w.alloc (.cells #[.slice A0 n0 c0, .slice A1 n1 c1, .slice A2 n2 c2, .slice A3 n3 c3, .slice A4 n4 c4] 31) = W0 := ⟨_, rfl⟩
  rw [show [Value.slice A0 n0 c0, .slice A1 n1 c1, .slice A2 n2 c2, .slice A3 n3 c3, .slice A4 n4 c4].toArray = #[.slice A0 n0 c0, .slice A1 n1 c1, .slice A2 n2 c2, .slice A3 n3 c3, .slice A4 n4 c4] from rfl, hW0, hgt] at HKK
  rw [hW0] at HR0 HR1 HR2 HR3 HR4 HT0 HBW
  rw [hW0, hgt]
  have HGT := Lib.hid hgt
  clear hW0 hgt
  have d0 := HKK.out.cell (i := 0) rfl
  have d1 := HKK.out.cell (i := 1) rfl
  have d2 := HKK.out.cell (i := 2) rfl
  have d3 := HKK.out.cell (i := 3) rfl
  have d4 := HKK.out.cell (i := 4) rfl
  by_cases p1 : Pl.isIn n0 1 4 = true
  rotate_left
  · have q1 : Pl.isIn n0 1 4 = false := by simpa using p1
    have HG : Hid (Pl.goodTell t = false) := Pl.good_bad1 (by unfold Pl.goodPre; rw [HLN.out.1, q1]; rfl)
    have HBX := Below.refl W0.heap.size W0
    have HP := Lib.hid p1
    clear p1
    go_wp2_with (go_at_call 47; (with_reducible refine (within_is q1 _).mono ?_); rintro e w' ⟨rfl, rfl⟩)
    go_ret
    exact ⟨ret_bool HG.out.symm, below_step HT0.out HBX⟩
  have hn4 := Pl.isIn_iff'.1 p1
  by_cases p2 : n1 = n0
  rotate_left
  · have q2 : (((n1 : Nat) : Int) != ((n0 : Nat) : Int)) = true := by simp; omega
    have HG : Hid (Pl.goodTell t = false) := Pl.good_bad1 (by unfold Pl.goodPre; rw [HLN.out.1, HLN.out.2.1, decide_eq_false p2]; simp)
    have HBX := Below.refl W0.heap.size W0
    have HP := Lib.hid p2
    clear p2
    go_wp2_with (go_at_call 47; (with_reducible refine (within_is p1 _).mono ?_); rintro e w' ⟨rfl, rfl⟩)
    go_ret
    exact ⟨ret_bool HG.out.symm, below_step HT0.out HBX⟩
  by_cases p3 : n4 = n0
  rotate_left
  · have q2 : (((n1 : Nat) : Int) != ((n0 : Nat) : Int)) = false := by simp; omega
    have q3 : (((n4 : Nat) : Int) != ((n0 : Nat) : Int)) = true := by simp; omega
    have HG : Hid (Pl.goodTell t = false) := Pl.good_bad1 (by unfold Pl.goodPre; rw [HLN.out.1, HLN.out.2.2.2.2, decide_eq_false p3]; simp)
    have HBX := Below.refl W0.heap.size W0
    have HP := Lib.hid (And.intro p2 p3)
    clear p2 p3
    go_wp2_with (go_at_call 47; (with_reducible refine (within_is p1 _).mono ?_); rintro e w' ⟨rfl, rfl⟩)
    go_ret
    exact ⟨ret_bool HG.out.symm, below_step HT0.out HBX⟩
  obtain rfl : n0 = n1 := p2.symm
  obtain rfl : n0 = n4 := p3.symm
  have q2 : (((n0 : Nat) : Int) != ((n0 : Nat) : Int)) = false := by simp
  by_cases p4 : n2 ≤ 30
  rotate_left
  · have q4 : decide ((30 : Int) < ((n2 : Nat) : Int)) = true := by simp; omega
    have HG : Hid (Pl.goodTell t = false) := Pl.good_bad1 (by unfold Pl.goodPre; rw [HLN.out.2.2.1, decide_eq_false p4]; simp)
    have HBX := Below.refl W0.heap.size W0
    go_wp2_with (go_at_call 47; (with_reducible refine (within_is p1 _).mono ?_); rintro e w' ⟨rfl, rfl⟩)
    go_ret
    exact ⟨ret_bool HG.out.symm, below_step HT0.out HBX⟩
  have q4 : decide ((30 : Int) < ((n2 : Nat) : Int)) = false := by simp; omega
  have HPRE : Hid (Pl.goodPre t = true) := by
    show _ = _
    unfold Pl.goodPre
    rw [HLN.out.1, HLN.out.2.1, HLN.out.2.2.1, HLN.out.2.2.2.2, p1, decide_eq_true p4]
    simp
  go_wp2_with (go_at_call 47; (with_reducible refine (within_is p1 _).mono ?_); rintro e w' ⟨rfl, rfl⟩)
  clear q2 q4
  go_loopw [41] (fun i wr => ∃ k : Nat, k ≤ n0 ∧ i = .int .i64 k ∧ Below W0.heap.size W0 wr ∧ ∀ j, j < k → Pl.textOk t j = true) (fun i _ => n0 - (intOf i).toNat)
  case atStart => exact ⟨0, Nat.zero_le _, rfl, Below.refl _ _, fun j hj => absurd hj (Nat.not_lt_zero _)⟩
  case round =>
    obtain ⟨k, hk, rfl, hbel, hall⟩ := hrel
    obtain ⟨W1, rfl⟩ : ∃ W1 : World, W1 = wr := ⟨_, rfl⟩
    have HA := Lib.hid hall
    clear hall
    by_cases hlt : k < n0
    · obtain ⟨l, b0, off0, a1, m1', c1', hx0, rfl, hb0, hl, e0⟩ := strs_get HR0.out hlt
      obtain ⟨b, b1, off1, hx1, rfl, hb1, hbi, e1⟩ := int_get HR1.out hlt
      obtain ⟨a, b4, off4, hx4, rfl, hb4, hai, e4⟩ := int_get HR4.out hlt
      have hml : m1' ≤ maxLen := Nat.le_trans hl.2.1 hl.2.2.1
      unfold maxLen at hml
      have HLL := Lib.hid hl.1
      replace e0 := below_some hbel e0
      replace e1 := below_some hbel e1
      replace e4 := below_some hbel e4
      replace d0 := below_some hbel d0
      replace d1 := below_some hbel d1
      replace d2 := below_some hbel d2
      replace d3 := below_some hbel d3
      replace d4 := below_some hbel d4
      have HBW1 := Lib.hid (Nat.le_trans HBW.out hbel.size)
      have HL := Lib.hid (hl.keep (w' := W1) fun b hb => hbel.block b (by have := HBW.out; omega))
      have HXX := Lib.hid (And.intro hx0 (And.intro hx4 hx1))
      clear hl hx0 hx1 hx4
      have f1 : ((k : Nat) : Int) < ((n0 : Nat) : Int) := by omega
      have f2 : (0 : Int) ≤ (k : Nat) := by omega
      have f3 : ((k : Nat) : Int).toNat = k := by omega
      by_cases g1 : m1' ≤ 20
      rotate_left
      · have u1 : decide ((20 : Int) < ((m1' : Nat) : Int)) = true := by simp; omega
        have HG : Hid (Pl.goodTell t = false) := Pl.text_bad HXX.out.1 HXX.out.2.1 HXX.out.2.2 (fun hh => by have := hh.1; rw [HLL.out] at this; omega)
        go_wp2
        refine wp_region_und (by kernel_rfl) (by kernel_rfl) ?_
        repeat (go_big_quiet_step ((first | fail)))
        refine wpQuiet_nil ?_
        intro X hX
        have HBX := below_step hbel hX
        go_wp2
        go_ret
        exact ⟨ret_bool HG.out.symm, below_step HT0.out HBX⟩
      have u1 : decide ((20 : Int) < ((m1' : Nat) : Int)) = false := by simp; omega
      obtain ⟨g2, hg2⟩ : ∃ g2, l.any (fun s => decide ((20 : Int) < (s.size : Nat))) = g2 := ⟨_, rfl⟩
      have HG2 := Lib.hid hg2
      clear hg2
      have CH := fun q : Und W1 => und_same q (show Calls Try.prog 94 #[.slice a1 m1' c1', .func (Fn.func 95) #[] #[]] (und W1 q) fun e w' => e = .returned (.bool g2) ∧ und W1 q = w' from HG2.out ▸ hasStr_c 95 isTell1_e _ isTell1_c l a1 m1' c1' (und W1 q) B (HL.out.und HBW1.out q) (Nat.le_trans HBW1.out (und_size q)))
      cases g2 with
      | true =>
        have HG : Hid (Pl.goodTell t = false) := Pl.text_bad HXX.out.1 HXX.out.2.1 HXX.out.2.2 (fun hh => by have := hh.2.1; rw [HG2.out] at this; cases this)
        go_wp2
        refine wp_region_und (by kernel_rfl) (by kernel_rfl) ?_
        repeat (go_big_quiet_step ((first | (with_reducible exact CH _))))
        refine wpQuiet_nil ?_
        intro X hX
        have HBX := below_step hbel hX
        go_wp2
        go_ret
        exact ⟨ret_bool HG.out.symm, below_step HT0.out HBX⟩
      | false =>
      obtain ⟨g3, hg3⟩ : ∃ g3, Pl.isIn a 0 ((m1' : Nat) : Int) = g3 := ⟨_, rfl⟩
      have HG3 := Lib.hid hg3
      clear hg3
      cases g3 with
      | false =>
        have HG : Hid (Pl.goodTell t = false) := Pl.text_bad HXX.out.1 HXX.out.2.1 HXX.out.2.2 (fun hh => by have := hh.2.2.1; rw [HLL.out, HG3.out] at this; cases this)
        go_wp2
        refine wp_region_und (by kernel_rfl) (by kernel_rfl) ?_
        repeat (go_big_quiet_step ((first | (with_reducible exact CH _) | (go_at_call 47; exact und_same _ (within_is HG3.out _)))))
        refine wpQuiet_nil ?_
        intro X hX
        have HBX := below_step hbel hX
        go_wp2
        go_ret
        exact ⟨ret_bool HG.out.symm, below_step HT0.out HBX⟩
      | true =>
      obtain ⟨g4, hg4⟩ : ∃ g4, Pl.isIn b 0 a = g4 := ⟨_, rfl⟩
      have HG4 := Lib.hid hg4
      clear hg4
      cases g4 with
      | false =>
        have HG : Hid (Pl.goodTell t = false) := Pl.text_bad HXX.out.1 HXX.out.2.1 HXX.out.2.2 (fun hh => by have := hh.2.2.2; rw [HG4.out] at this; cases this)
        go_wp2
        refine wp_region_und (by kernel_rfl) (by kernel_rfl) ?_
        repeat (go_big_quiet_step ((first | (with_reducible exact CH _) | (go_at_call 47; (with_reducible exact und_same _ (within_is HG3.out _))) | (go_at_call 47; (with_reducible exact und_same _ (within_is HG4.out _))))))
        refine wpQuiet_nil ?_
        intro X hX
        have HBX := below_step hbel hX
        go_wp2
        go_ret
        exact ⟨ret_bool HG.out.symm, below_step HT0.out HBX⟩
      | true =>
        have HO : Hid (Pl.textOk t k = true) := Pl.text_good HXX.out.1 HXX.out.2.1 HXX.out.2.2 ⟨by rw [HLL.out]; exact g1, HG2.out, by rw [HLL.out]; exact HG3.out, HG4.out⟩
        go_wp2
        refine wp_region_und (by kernel_rfl) (by kernel_rfl) ?_
        repeat (go_big_quiet_step ((first | (with_reducible exact CH _) | (go_at_call 47; (with_reducible exact und_same _ (within_is HG3.out _))) | (go_at_call 47; (with_reducible exact und_same _ (within_is HG4.out _))))))
        refine wpQuiet_nil ?_
        intro X hX
        go_wp2
        go_roundw
        case rel => exact ⟨k + 1, by omega, by go_num, below_step hbel hX, fun j hj => by
          rcases Nat.lt_succ_iff_lt_or_eq.1 hj with h1 | rfl
          · exact HA.out j h1
          · exact HO.out⟩
        case measure => simp [intOf]; omega
    · obtain rfl : n0 = k := by omega
      replace d0 := below_some hbel d0
      replace d1 := below_some hbel d1
      replace d2 := below_some hbel d2
      replace d3 := below_some hbel d3
      replace d4 := below_some hbel d4
      go_wp2
      clear d0 d1 d2 d3 d4
      go_loopw [82] (fun i wr => ∃ k : Nat, k ≤ n2 ∧ i = .int .i64 k ∧ Below W0.heap.size W0 wr ∧ Hid (∀ (j : Nat) (m : Note), j < k → t.Line[j]? = some m → Pl.noteOk t m = true)) (fun i _ => n2 - (intOf i).toNat)
      case atStart => exact ⟨0, Nat.zero_le _, rfl, hbel, Lib.hid fun j m hj => absurd hj (Nat.not_lt_zero _)⟩
      case round =>
        clear hbel
        obtain ⟨k2, hk2, rfl, hbel, HN⟩ := hrel
        obtain ⟨W2, rfl⟩ : ∃ W2 : World, W2 = wr := ⟨_, rfl⟩
        by_cases hlt : k2 < n2
        · obtain ⟨⟨bk, ⟨who, no, tx⟩⟩, b, off, hx, rfl, hb, mi0, mi1, mi2, e0, e1, e2, e3⟩ := rNote_get HR2.out hlt
          dsimp only at mi0 mi1 mi2 e0 e1 e2 e3
          replace e0 := below_some hbel e0
          replace e1 := below_some hbel e1
          replace e2 := below_some hbel e2
          replace e3 := below_some hbel e3
          have HX := Lib.hid hx
          have HMI := Lib.hid (And.intro mi0 (And.intro mi1 mi2))
          clear hx mi0 mi1 mi2
          have f1 : ((k2 : Nat) : Int) < ((n2 : Nat) : Int) := by omega
          have hw1 : IntKind.i64.wrap ((n0 : Int) - 1) = (n0 : Int) - 1 := IntWalk.i64_in _ (by omega)
          go_upto_region 14 with fail
          obtain ⟨gm, hgm⟩ : ∃ gm, W2.heap.size = gm := ⟨_, rfl⟩
          obtain ⟨gx, hgx⟩ : ∃ gx, gm + 1 = gx := ⟨_, rfl⟩
          obtain ⟨W3, hW3⟩ : ∃ W3, (W2.alloc (.cells #[.bool bk, .int .i64 who, .int .i64 no, .string tx] 94)).alloc (.cells #[.int .i64 who, .int .i64 no, .string tx] 52) = W3 := ⟨_, rfl⟩
          have HS := Lib.hid ((((Mm.SepF.start W2).alloc' hgm 94 [.bool bk, .int .i64 who, .int .i64 no, .string tx]).alloc' (g := gx) (by rw [Mm.sz1, hgm, hgx]) 52 [.int .i64 who, .int .i64 no, .string tx]).atW hW3)
          rw [hW3, hgm, hgx]
          clear hW3 hgm hgx e0 e1 e2 e3
          have hb3 := below_step hbel HS.out.bel0
          have HB0 := hb3
          have d0 := below_some HB0 (HKK.out.cell (i := 0) rfl)
          have d1 := below_some HB0 (HKK.out.cell (i := 1) rfl)
          have d2 := below_some HB0 (HKK.out.cell (i := 2) rfl)
          have d3 := below_some HB0 (HKK.out.cell (i := 3) rfl)
          have d4 := below_some HB0 (HKK.out.cell (i := 4) rfl)
          have m0 := HS.out.cell (k := 0) 1 rfl rfl
          have m1 := HS.out.cell (k := 1) 1 rfl rfl
          have m2 := HS.out.cell (k := 2) 1 rfl rfl
          have m3 := HS.out.cell (k := 3) 1 rfl rfl
          have y0 := HS.out.cell (k := 0) 0 rfl rfl
          have y1 := HS.out.cell (k := 1) 0 rfl rfl
          have y2 := HS.out.cell (k := 2) 0 rfl rfl
          obtain ⟨g1, hg1⟩ : ∃ g1, Pl.isIn who 0 ((n0 : Int) - 1) = g1 := ⟨_, rfl⟩
          have HG1 := Lib.hid hg1
          clear hg1
          cases g1 with
          | false =>
            have HG : Hid (Pl.goodTell t = false) := Pl.good_bad3 HX.out (by unfold Pl.noteOk; dsimp only; rw [HLN.out.1, HG1.out]; rfl)
            go_wp2
            refine wp_region_und (by kernel_rfl) (by kernel_rfl) ?_
            repeat (go_big_quiet_step ((first | (go_at_call 47; exact und_same _ (within_is HG1.out _)))))
            refine wpQuiet_nil ?_
            intro X hX
            have HBX := below_step hb3 hX
            go_wp2
            go_ret
            exact ⟨ret_bool HG.out.symm, below_step HT0.out HBX⟩
          | true =>
            have hwho := Pl.isIn_iff'.1 HG1.out
            obtain ⟨q, rfl⟩ : ∃ q : Nat, who = q := ⟨who.toNat, by omega⟩
            have hqn : q < n0 := by omega
            obtain ⟨a, b4, off4, hx4, rfl, hb4, hai, e4⟩ := int_get HR4.out hqn
            replace e4 := below_some hb3 e4
            have HIA := Lib.hid (Pl.iAt_of (l := t.Next) (k := (q : Int)) (a := a) (by simpa using hx4))
            clear hx4
            have f2 : ((q : Nat) : Int) < ((n0 : Nat) : Int) := by omega
            have f3 : (0 : Int) ≤ (q : Nat) := by omega
            have f4 : ((q : Nat) : Int).toNat = q := by omega
            cases bk with
            | true =>
              obtain ⟨g2, hg2⟩ : ∃ g2, Pl.isIn no 0 a = g2 := ⟨_, rfl⟩
              have HG2 := Lib.hid hg2
              clear hg2
              cases g2 with
              | false =>
                have HG : Hid (Pl.goodTell t = false) := Pl.good_bad3 HX.out (by rw [Pl.note_b, HIA.out, HG2.out]; simp)
                go_wp2
                refine wp_region_und (by kernel_rfl) (by kernel_rfl) ?_
                repeat (go_big_quiet_step ((first | (go_at_call 47; (with_reducible exact und_same _ (within_is HG1.out _))) | (go_at_call 47; (with_reducible exact und_same _ (within_is HG2.out _))))))
                refine wpQuiet_nil ?_
                intro X hX
                have HBX := below_step hb3 hX
                go_wp2
                go_ret
                exact ⟨ret_bool HG.out.symm, below_step HT0.out HBX⟩
              | true =>
                cases he : tx.toList.isEmpty with
                | false =>
                  have HG : Hid (Pl.goodTell t = false) := Pl.good_bad3 HX.out (by rw [Pl.note_b, he]; simp)
                  go_wp2
                  refine wp_region_und (by kernel_rfl) (by kernel_rfl) ?_
                  repeat (go_big_quiet_step ((first | (go_at_call 47; (with_reducible exact und_same _ (within_is HG1.out _))) | (go_at_call 47; (with_reducible exact und_same _ (within_is HG2.out _))))))
                  refine wpQuiet_nil ?_
                  intro X hX
                  have HBX := below_step hb3 hX
                  go_wp2
                  go_ret
                  exact ⟨ret_bool HG.out.symm, below_step HT0.out HBX⟩
                | true =>
                  have HO : Hid (Pl.noteOk t ⟨true, ⟨q, no, tx⟩⟩ = true) := Lib.hid (by rw [Pl.note_b, HIA.out, HG2.out, he, HLN.out.1, HG1.out]; rfl)
                  obtain rfl := ba_isEmpty he
                  clear he
                  go_wp2
                  refine wp_region_und (by kernel_rfl) (by kernel_rfl) ?_
                  repeat (go_big_quiet_step ((first | (go_at_call 47; (with_reducible exact und_same _ (within_is HG1.out _))) | (go_at_call 47; (with_reducible exact und_same _ (within_is HG2.out _))))))
                  refine wpQuiet_nil ?_
                  intro X hX
                  go_wp2
                  go_roundw
                  case rel => exact ⟨k2 + 1, by omega, by go_num, below_step hb3 hX, Lib.hid fun j m hj hm => by
                    rcases Nat.lt_succ_iff_lt_or_eq.1 hj with h1 | rfl
                    · exact HN.out j m h1 hm
                    · rw [HX.out] at hm; injection hm with hm; rw [← hm]; exact HO.out⟩
                  case measure => simp [intOf]; omega
            | false =>
              obtain ⟨g2, hg2⟩ : ∃ g2, Pl.txtOk t ⟨q, no, tx⟩ = g2 := ⟨_, rfl⟩
              have HG2 := Lib.hid hg2
              clear hg2
              have HK3 := Lib.hid (HKK.out.bel hb3)
              have CT := fun z : Und W3 => und_call z (show Calls Try.prog 96 #[.pointer (some ⟨gt, 0, none⟩), .agg #[.int .i64 q, .int .i64 no, .string tx]] (und W3 z) fun e w' => e = .returned (.bool g2) ∧ Below (und W3 z).heap.size (und W3 z) w' from HG2.out ▸ isText_c t ⟨q, no, tx⟩ gt A0 n0 c0 _ _ _ _ (und W3 z) B (HK3.out.bel z.h) ((HR0.out.keep fun b hb => hb3.block b (Nat.lt_of_lt_of_le hb HBW.out)).und (Nat.le_trans HBW.out hb3.size) z) (Nat.le_trans (Nat.le_trans HBW.out hb3.size) (und_size z)) f3 f2 HMI.out.2.1)
              cases g2 with
              | false =>
                have HG : Hid (Pl.goodTell t = false) := Pl.good_bad3 HX.out (by rw [Pl.note_f, HG2.out]; simp)
                go_wp2
                refine wp_region_und (by kernel_rfl) (by kernel_rfl) ?_
                repeat (go_big_quiet_step ((first | (go_at_call 47; (with_reducible exact und_same _ (within_is HG1.out _))) | (with_reducible exact CT _))))
                refine wpQuiet_nil ?_
                intro X hX
                have HBX := below_step hb3 hX
                go_wp2
                go_ret
                exact ⟨ret_bool HG.out.symm, below_step HT0.out HBX⟩
              | true =>
                have HO : Hid (Pl.noteOk t ⟨false, ⟨q, no, tx⟩⟩ = true) := Lib.hid (by rw [Pl.note_f, HG2.out, HLN.out.1]; dsimp only; rw [HG1.out]; rfl)
                go_wp2
                refine wp_region_und (by kernel_rfl) (by kernel_rfl) ?_
                repeat (go_big_quiet_step ((first | (go_at_call 47; (with_reducible exact und_same _ (within_is HG1.out _))) | (with_reducible exact CT _))))
                refine wpQuiet_nil ?_
                intro X hX
                go_wp2
                go_roundw
                case rel => exact ⟨k2 + 1, by omega, by go_num, below_step hb3 hX, Lib.hid fun j m hj hm => by
                  rcases Nat.lt_succ_iff_lt_or_eq.1 hj with h1 | rfl
                  · exact HN.out j m h1 hm
                  · rw [HX.out] at hm; injection hm with hm; rw [← hm]; exact HO.out⟩
                case measure => simp [intOf]; omega
        · obtain rfl : n2 = k2 := by omega
          have HB0 := hbel
          have d0 := below_some HB0 (HKK.out.cell (i := 0) rfl)
          have d1 := below_some HB0 (HKK.out.cell (i := 1) rfl)
          have d2 := below_some HB0 (HKK.out.cell (i := 2) rfl)
          have d3 := below_some HB0 (HKK.out.cell (i := 3) rfl)
          have d4 := below_some HB0 (HKK.out.cell (i := 4) rfl)
          have hmn := make_nums n0 (by omega) (by omega)
          go_wp2
          have HTB := Lib.hid (fun (q : Nat) (hq : q < n0) => Pl.text_len (HA.out q hq) (by rw [HLN.out.1]; exact hq) (by rw [HLN.out.2.2.2.2]; exact hq) (by rw [HLN.out.2.1]; exact hq))
          obtain ⟨gs, hgs⟩ : ∃ gs, W2.heap.size = gs := ⟨_, rfl⟩
          have HS0 := Lib.hid ((Mm.SepF.start W2).add (W := W2.alloc (.cells (List.replicate n0 (Value.int .i64 0)).toArray 3)) (below_new (Below.refl _ _) _) (t := Mm.tsl Mm.int 3 (List.replicate n0 0) (.slice (some ⟨W2.heap.size, 0, none⟩) n0 n0) [W2.heap.size]) (nums_own (by omega)) (by simp [Mm.tsl]) (fun b hb => by rw [show b = W2.heap.size by simpa [Mm.tsl] using hb]; exact Nat.le_refl _))
          rw [hgs] at HS0 ⊢
          clear hmn hgs d0 d1 d2 d3 d4
          go_loopw [131] (fun i wr => ∃ (k : Nat) (s : List Int), k ≤ n3 ∧ i = .int .i64 k ∧ Hid (Pl.logRun t (t.Log.take k) = some s ∧ Mm.SepF [] W2 wr [Mm.tsl Mm.int 3 s (.slice (some ⟨gs, 0, none⟩) n0 n0) [gs]])) (fun i _ => n3 - (intOf i).toNat)
          case atStart => exact ⟨0, _, Nat.zero_le _, rfl, Lib.hid ⟨by unfold Pl.logRun; rw [List.take_zero, List.foldl_nil, HLN.out.1], HS0.out⟩⟩
          case round =>
            clear HS0
            obtain ⟨k3, s, hk3, rfl, HS'⟩ := hrel
            obtain ⟨Wr, rfl⟩ : ∃ Wr : World, Wr = wr := ⟨_, rfl⟩
            have HLR := Lib.hid HS'.out.1
            have HS := Lib.hid HS'.out.2
            clear HS'
            have hb2 := below_step hbel HS.out.bel0
            have hsl := (Pl.logRun_len _ _ rfl s HLR.out).1
            rw [HLN.out.1] at hsl
            have HSL := Lib.hid hsl
            by_cases hlt : k3 < n3
            · obtain ⟨⟨who, no, tx⟩, b, off, hx, rfl, hb, mi0, mi1, mi2, e0, e1, e2⟩ := rTold_get HR3.out hlt
              dsimp only at mi0 mi1 mi2 e0 e1 e2
              replace e0 := below_some hb2 e0
              replace e1 := below_some hb2 e1
              replace e2 := below_some hb2 e2
              have HX := Lib.hid hx
              have HMI := Lib.hid (And.intro mi0 (And.intro mi1 mi2))
              clear hx mi0 mi1 mi2
              have f1 : ((k3 : Nat) : Int) < ((n3 : Nat) : Int) := by omega
              have hw1 : IntKind.i64.wrap ((n0 : Int) - 1) = (n0 : Int) - 1 := IntWalk.i64_in _ (by omega)
              have HTK := Lib.hid (Mm.take_succ_some HX.out)
              clear hsl
              go_upto_region 21 with fail
              obtain ⟨gx, hgx⟩ : ∃ gx, Wr.heap.size = gx := ⟨_, rfl⟩
              obtain ⟨W3, hW3⟩ : ∃ W3, Wr.alloc (.cells #[.int .i64 who, .int .i64 no, .string tx] 52) = W3 := ⟨_, rfl⟩
              have HS3 := Lib.hid ((HS.out.alloc' hgx 52 [.int .i64 who, .int .i64 no, .string tx]).atW hW3)
              rw [hW3, hgx]
              clear hW3 hgx e0 e1 e2 hb2
              have hb3 := below_step hbel HS3.out.bel0
              have HB0 := hb3
              have d0 := below_some HB0 (HKK.out.cell (i := 0) rfl)
              have d1 := below_some HB0 (HKK.out.cell (i := 1) rfl)
              have d2 := below_some HB0 (HKK.out.cell (i := 2) rfl)
              have d3 := below_some HB0 (HKK.out.cell (i := 3) rfl)
              have d4 := below_some HB0 (HKK.out.cell (i := 4) rfl)
              have y0 := HS3.out.cell (k := 0) 0 rfl rfl
              have y1 := HS3.out.cell (k := 1) 0 rfl rfl
              have y2 := HS3.out.cell (k := 2) 0 rfl rfl
              obtain ⟨g1, hg1⟩ : ∃ g1, Pl.isIn who 0 ((n0 : Int) - 1) = g1 := ⟨_, rfl⟩
              have HG1 := Lib.hid hg1
              clear hg1
              cases g1 with
              | false =>
                have HSD : Hid (Pl.saidOk t ⟨who, no, tx⟩ = false) := Lib.hid (by rw [Pl.said_eq]; dsimp only; rw [HLN.out.1, HG1.out]; rfl)
                have HG : Hid (Pl.goodTell t = false) := Pl.good_bad4 HLR.out HX.out (Pl.log_no (.inl HSD.out))
                go_wp2
                refine wp_region_und (by kernel_rfl) (by kernel_rfl) ?_
                repeat (go_big_quiet_step ((first | (go_at_call 47; exact und_same _ (within_is HG1.out _)))))
                refine wpQuiet_nil ?_
                intro X hX
                have HBX := below_step hb3 hX
                go_wp2
                go_ret
                exact ⟨ret_bool HG.out.symm, below_step HT0.out HBX⟩
              | true =>
                have hwho := Pl.isIn_iff'.1 HG1.out
                obtain ⟨q, rfl⟩ : ∃ q : Nat, who = q := ⟨who.toNat, by omega⟩
                have hqn : q < n0 := by omega
                have hqs : q < s.length := by rw [HSL.out]; exact hqn
                have hv := List.getElem?_eq_getElem hqs
                generalize s[q] = v at hv
                have HV := Lib.hid hv
                have HIV := Lib.hid (Pl.iAt_of (l := s) (k := (q : Int)) (a := v) (by simpa using hv))
                clear hv hqs
                have e5 := int_ocell (HS3.out.sl 1 rfl) (HS3.out.ndat (i := 1) rfl) HV.out
                have f2 : ((q : Nat) : Int) < ((n0 : Nat) : Int) := by omega
                have f3 : (0 : Int) ≤ (q : Nat) := by omega
                have f4 : ((q : Nat) : Int).toNat = q := by omega
                have HK3 := Lib.hid (HKK.out.bel hb3)
                obtain ⟨g2, hg2⟩ : ∃ g2, Pl.txtOk t ⟨q, no, tx⟩ = g2 := ⟨_, rfl⟩
                have HG2 := Lib.hid hg2
                clear hg2
                have CT := fun z : Und W3 => und_call z (show Calls Try.prog 96 #[.pointer (some ⟨gt, 0, none⟩), .agg #[.int .i64 q, .int .i64 no, .string tx]] (und W3 z) fun e w' => e = .returned (.bool g2) ∧ Below (und W3 z).heap.size (und W3 z) w' from HG2.out ▸ isText_c t ⟨q, no, tx⟩ gt A0 n0 c0 _ _ _ _ (und W3 z) B (HK3.out.bel z.h) ((HR0.out.keep fun b hb => hb3.block b (Nat.lt_of_lt_of_le hb HBW.out)).und (Nat.le_trans HBW.out hb3.size) z) (Nat.le_trans (Nat.le_trans HBW.out hb3.size) (und_size z)) f3 f2 HMI.out.2.1)
                by_cases hnv : no = v
                · subst hnv
                  have u1 : (no != no) = false := by simp
                  cases g2 with
                  | false =>
                    have HSD : Hid (Pl.saidOk t ⟨q, no, tx⟩ = false) := Lib.hid (by rw [Pl.said_eq, HG2.out]; simp)
                    have HG : Hid (Pl.goodTell t = false) := Pl.good_bad4 HLR.out HX.out (Pl.log_no (.inl HSD.out))
                    go_wp2
                    refine wp_region_und (by kernel_rfl) (by kernel_rfl) ?_
                    repeat (go_big_quiet_step ((first | (go_at_call 47; (with_reducible exact und_same _ (within_is HG1.out _))) | (with_reducible exact CT _))))
                    refine wpQuiet_nil ?_
                    intro X hX
                    have HBX := below_step hb3 hX
                    go_wp2
                    go_ret
                    exact ⟨ret_bool HG.out.symm, below_step HT0.out HBX⟩
                  | true =>
                    have HSD : Hid (Pl.saidOk t ⟨q, no, tx⟩ = true) := Lib.hid (by rw [Pl.said_eq, HG2.out, HLN.out.1]; dsimp only; rw [HG1.out]; rfl)
                    have hnb := Pl.txt_no HG2.out
                    dsimp only at hnb
                    have hb20 : (Pl.tAt t (q : Int)).length ≤ 20 := HTB.out q hqn
                    have HY : Hid (Pl.logRun t (t.Log.take (k3 + 1)) = some (s.set q (no + 1))) := Lib.hid (by
                      rw [HTK.out, Pl.logRun_snoc, HLR.out]
                      show Pl.logStep t s _ = _
                      rw [Pl.log_yes HSD.out HIV.out.symm, HIV.out]
                      rfl)
                    have hno1 : Mm.I64 (no + 1) := by unfold Mm.I64; omega
                    have hw2 : IntKind.i64.wrap (no + 1) = no + 1 := IntWalk.i64_in _ (by omega)
                    go_wp2
                    refine wp_region_und (by kernel_rfl) (by kernel_rfl) ?_
                    repeat (go_big_quiet_step ((first | (go_at_call 47; (with_reducible exact und_same _ (within_is HG1.out _))) | (with_reducible exact CT _))))
                    refine wpQuiet_nil ?_
                    intro X hX
                    have HS4 := Lib.hid (HS3.out.step hX)
                    replace y0 := below_some hX y0
                    have e6 := int_ocell (HS4.out.sl 1 rfl) (HS4.out.ndat (i := 1) rfl) HV.out
                    have z6 := (HS4.out.sl 1 rfl).frozen q
                    have HS5 := Lib.hid (HS4.out.put1 (k := q) 1 rfl rfl HV.out (x' := no + 1) (u := .int .i64 (no + 1)) (fun cs fx hh => by obtain ⟨rfl, _, rfl⟩ := hh; exact ⟨rfl, hno1, rfl⟩))
                    go_wp2
                    go_roundw
                    case rel => exact ⟨k3 + 1, _, by omega, by go_num, Lib.hid ⟨HY.out, HS5.out.sel [1] (by decide) rfl⟩⟩
                    case measure => simp [intOf]; omega
                · have u1 : ((no != v)) = true := by simp; omega
                  have HG : Hid (Pl.goodTell t = false) := Pl.good_bad4 HLR.out HX.out (Pl.log_no (.inr (by rw [HIV.out]; exact hnv)))
                  have HNV := Lib.hid hnv
                  clear hnv
                  go_wp2
                  refine wp_region_und (by kernel_rfl) (by kernel_rfl) ?_
                  repeat (go_big_quiet_step ((first | (go_at_call 47; (with_reducible exact und_same _ (within_is HG1.out _))))))
                  refine wpQuiet_nil ?_
                  intro X hX
                  have HBX := below_step hb3 hX
                  go_wp2
                  go_ret
                  exact ⟨ret_bool HG.out.symm, below_step HT0.out HBX⟩
            · obtain rfl : n3 = k3 := by omega
              have HTE : Hid (t.Log.take n3 = t.Log) := List.take_of_length_le (by rw [HLN.out.2.2.2.1]; exact Nat.le_refl _)
              rw [HTE.out] at HLR
              have HG : Hid (Pl.goodTell t = decide (s = t.Next)) := Pl.good_all HPRE.out (fun j hj => HA.out j (by rw [HLN.out.1] at hj; omega)) (fun j m hm => HN.out j m (by have := (List.getElem?_eq_some_iff.1 hm).1; rw [HLN.out.2.2.1] at this; exact this) hm) HLR.out
              have HB0 := hb2
              have d0 := below_some HB0 (HKK.out.cell (i := 0) rfl)
              have d1 := below_some HB0 (HKK.out.cell (i := 1) rfl)
              have d2 := below_some HB0 (HKK.out.cell (i := 2) rfl)
              have d3 := below_some HB0 (HKK.out.cell (i := 3) rfl)
              have d4 := below_some HB0 (HKK.out.cell (i := 4) rfl)
              clear hsl
              go_wp2_with (go_at_call 97; refine (equalInts_c s t.Next _ _ _ _ _ _ Wr Wr.heap.size (HS.out.rdSl 0 rfl) ((HR4.out.keep fun b hb => hb2.block b (Nat.lt_of_lt_of_le hb HBW.out)).more (Nat.le_trans HBW.out hb2.size)) (Nat.le_refl _)).mono ?_; rintro e w9 ⟨rfl, hb9⟩)
              go_ret
              exact ⟨ret_bool HG.out.symm, below_step HT0.out (below_step hb2 hb9)⟩
end Go.Proofs.Ytaepohocabealaa

/-
  Contracts: whether a teller is good, the reference's (chapter 10). No conditions.
-/
namespace Go.Proofs.Ytaepohocabealaa
open Go.RowKit
attribute [local go_sem] und_cell cha_cell World.cell?_alloc_some
theorem Pl.who_is {n0 : Nat} {who : Int} {r : Bool} (h : Pl.isIn who 0 ((n0 : Int) - 1) = r) : (decide (0 ≤ who) && decide (who < ((n0 : Nat) : Int))) = r := by
  rw [← h]; unfold Pl.isIn
  congr 1
  by_cases h1 : who < (n0 : Nat)
  · rw [decide_eq_true h1, decide_eq_true (by omega)]
  · rw [decide_eq_false h1, decide_eq_false (by omega)]
theorem l10Who_is {A0 A1 A2 A3 A4 : Option Addr} {n0 n1 n2 n3 n4 c0 c1 c2 c3 c4 : Nat} {k : Int} {r : Bool} (h : Pl.isIn k 0 ((n0 : Int) - 1) = r) (w : World) :
    Calls Try.prog 57 #[.agg #[.slice A0 n0 c0, .slice A1 n1 c1, .slice A2 n2 c2, .slice A3 n3 c3, .slice A4 n4 c4], .int .i64 k] w fun e w' => e = .returned (.bool r) ∧ Below w.heap.size w w' := Pl.who_is h ▸ l10Who_c A0 A1 A2 A3 A4 n0 n1 n2 n3 n4 c0 c1 c2 c3 c4 k w
set_option maxRecDepth 100000 in
set_option maxHeartbeats 1000000 in
theorem l10Said_c (t : Tell) (x : Told) (A0 A1 A2 A3 A4 : Option Addr) (n0 n1 n2 n3 n4 c0 c1 c2 c3 c4 : Nat) (w : World) (B : Nat) (hl : Mm.SlAt strs w B t.Texts A0 n0 c0) (hB : B ≤ w.heap.size) :
    Calls Try.prog 58 #[.agg #[.slice A0 n0 c0, .slice A1 n1 c1, .slice A2 n2 c2, .slice A3 n3 c3, .slice A4 n4 c4], .agg #[.int .i64 x.Who, .int .i64 x.No, .string x.Text]] w fun e w' => e = .returned (.bool (Pl.saidOk t x)) ∧ Below w.heap.size w w' := by
  obtain ⟨who, no, tx⟩ := x
  dsimp only
  have hn0 : n0 ≤ maxLen := Nat.le_trans hl.2.1 hl.2.2.1
  have HLN := Lib.hid hl.1
  have HS := Lib.hid (((Mm.SepF.start w).alloc' rfl 31 [.slice A0 n0 c0, .slice A1 n1 c1, .slice A2 n2 c2, .slice A3 n3 c3, .slice A4 n4 c4]).alloc' (Mm.sz1 _ _) 52 [.int .i64 who, .int .i64 no, .string tx])
  have HL := Lib.hid hl
  clear hl
  unfold maxLen at hn0
  go_enter Try.func58, Try.ntmps58
  go_upto_region 1 with fail
  obtain ⟨gt, hgt⟩ : ∃ gt, w.heap.size = gt := ⟨_, rfl⟩
  obtain ⟨gx, hgx⟩ : ∃ gx, gt + 1 = gx := ⟨_, rfl⟩
  obtain ⟨W0, hW0⟩ : ∃ W0, (w.alloc (.cells #[.slice A0 n0 c0, .slice A1 n1 c1, .slice A2 n2 c2, .slice A3 n3 c3, .slice A4 n4 c4] 31)).alloc (.cells #[.int .i64 who, .int .i64 no, .string tx] 52) = W0 := ⟨_, rfl⟩
  replace HS := Lib.hid (HS.out.atW hW0)
  have HT0 := Lib.hid HS.out.bel0
  have HGT := Lib.hid hgt
  rw [hgt, hgx] at HS
  rw [hW0, hgt, hgx]
  clear hW0 hgt hgx
  have d0 := HS.out.cell (k := 0) 1 rfl rfl
  have d1 := HS.out.cell (k := 1) 1 rfl rfl
  have d2 := HS.out.cell (k := 2) 1 rfl rfl
  have d3 := HS.out.cell (k := 3) 1 rfl rfl
  have d4 := HS.out.cell (k := 4) 1 rfl rfl
  have y0 := HS.out.cell (k := 0) 0 rfl rfl
  have y1 := HS.out.cell (k := 1) 0 rfl rfl
  have y2 := HS.out.cell (k := 2) 0 rfl rfl
  obtain ⟨g1, hg1⟩ : ∃ g1, Pl.isIn who 0 ((n0 : Int) - 1) = g1 := ⟨_, rfl⟩
  have HG1 := Lib.hid hg1
  clear hg1
  have CW := fun z : Und W0 => und_call z (l10Who_is (A0 := A0) (A1 := A1) (A2 := A2) (A3 := A3) (A4 := A4) (n1 := n1) (n2 := n2) (n3 := n3) (n4 := n4) (c0 := c0) (c1 := c1) (c2 := c2) (c3 := c3) (c4 := c4) HG1.out (und W0 z))
  cases g1 with
  | false =>
    have HF : Hid (Pl.saidOk t ⟨who, no, tx⟩ = false) := Lib.hid (by rw [Pl.said_eq]; dsimp only; rw [HLN.out, HG1.out]; rfl)
    go_wp2
    refine wp_region_und (by kernel_rfl) (by kernel_rfl) ?_
    repeat (go_big_quiet_step ((first | (with_reducible exact CW _))))
    refine wpQuiet_nil ?_
    intro X hX
    go_wp2
    go_ret
    exact ⟨ret_bool HF.out.symm, below_step HT0.out hX⟩
  | true =>
    have hwho := Pl.isIn_iff'.1 HG1.out
    obtain ⟨k, rfl⟩ : ∃ k : Nat, who = k := ⟨who.toNat, by omega⟩
    obtain ⟨r, b0, off, a1, m1, c1', hx, rfl, hb0, hr, e0⟩ := strs_get HL.out (show k < n0 by omega)
    have hn1 : m1 ≤ maxLen := Nat.le_trans hr.2.1 hr.2.2.1
    unfold maxLen at hn1
    have HT : Hid (Pl.tAt t (k : Int) = r) := Pl.tAt_of (by simpa using hx)
    have HRL := Lib.hid hr.1
    have HR := Lib.hid (hr.keep (w' := W0) fun b hb' => HT0.out.block b (by omega))
    replace e0 := below_some HT0.out e0
    have f1' : ((k : Nat) : Int) < (n0 : Nat) := by omega
    have f2' : (0 : Int) ≤ (k : Nat) := by omega
    have f3' : ((k : Nat) : Int).toNat = k := by omega
    have HX := Lib.hid hx
    clear hr hx
    by_cases h0 : 0 ≤ no
    rotate_left
    · have q : Pl.isIn no 0 ((m1 : Int) - 1) = false := by unfold Pl.isIn; simp; omega
      have u0 : decide (0 ≤ no) = false := by simp; omega
      have HF : Hid (Pl.saidOk t ⟨k, no, tx⟩ = false) := Lib.hid (by unfold Pl.saidOk; dsimp only; rw [HT.out, HRL.out, q]; simp)
      clear q
      go_wp2
      refine wp_region_und (by kernel_rfl) (by kernel_rfl) ?_
      repeat (go_big_quiet_step ((first | (with_reducible exact CW _))))
      refine wpQuiet_nil ?_
      intro X hX
      go_wp2
      go_ret
      exact ⟨ret_bool HF.out.symm, below_step HT0.out hX⟩
    obtain ⟨j, rfl⟩ : ∃ j : Nat, no = j := ⟨no.toNat, by omega⟩
    have f5' : (0 : Int) ≤ (j : Nat) := by omega
    have f6' : ((j : Nat) : Int).toNat = j := by omega
    have u0 : decide ((0 : Int) ≤ (j : Nat)) = true := by simp
    by_cases h1 : j < m1
    rotate_left
    · have q : Pl.isIn (j : Int) 0 ((m1 : Int) - 1) = false := by unfold Pl.isIn; simp; omega
      have u1 : decide (((j : Nat) : Int) < ((m1 : Nat) : Int)) = false := by simp; omega
      have u2 : decide (j < m1) = false := by simp; omega
      have HF : Hid (Pl.saidOk t ⟨k, j, tx⟩ = false) := Lib.hid (by unfold Pl.saidOk; dsimp only; rw [HT.out, HRL.out, q]; simp)
      clear q
      go_wp2
      refine wp_region_und (by kernel_rfl) (by kernel_rfl) ?_
      repeat (go_big_quiet_step ((first | (with_reducible exact CW _))))
      refine wpQuiet_nil ?_
      intro X hX
      go_wp2
      go_ret
      exact ⟨ret_bool HF.out.symm, below_step HT0.out hX⟩
    · obtain ⟨y, b9, off9, hy, rfl, hb9, hys, e2⟩ := str_get HR.out h1
      have q : Pl.isIn (j : Int) 0 ((m1 : Int) - 1) = true := by unfold Pl.isIn; simp; omega
      have HF : Hid (Pl.saidOk t ⟨k, j, tx⟩ = (y.toList == tx.toList)) := by
        show _ = _
        unfold Pl.saidOk Pl.sayAt
        dsimp only
        rw [HT.out, HRL.out, HLN.out, HG1.out, q, List.getD_eq_getElem?_getD, show ((j : Nat) : Int).toNat = j by omega, hy]
        simp
      have f4' : ((j : Nat) : Int) < (m1 : Nat) := by omega
      have u1 : decide (((j : Nat) : Int) < ((m1 : Nat) : Int)) = true := by simp; omega
      have u2 : decide (j < m1) = true := by simp; omega
      have HY := Lib.hid hy
      clear hy q
      go_wp2
      refine wp_region_und (by kernel_rfl) (by kernel_rfl) ?_
      repeat (go_big_quiet_step ((first | (with_reducible exact CW _))))
      refine wpQuiet_nil ?_
      intro X hX
      go_wp2
      go_ret
      exact ⟨ret_bool HF.out.symm, below_step HT0.out hX⟩
end Go.Proofs.Ytaepohocabealaa

/-
  Contracts: whether a teller is good, the reference's, whole (chapter 10). No conditions.
-/
namespace Go.Proofs.Ytaepohocabealaa
open Go.RowKit
attribute [local go_sem] und_cell cha_cell World.cell?_alloc_some
set_option maxRecDepth 100000 in
set_option maxHeartbeats 4000000 in
theorem GoodTell_c (t : Tell) (cs : List Value) (w : World) (B : Nat) (hh : rTell.at_ w B t cs) (hB : B ≤ w.heap.size) :
    Calls Try.prog 20 #[.agg cs.toArray] w fun e w' => e = .returned (.bool (Pl.goodTell t)) ∧ Below w.heap.size w w' := by
  obtain ⟨A0, n0, c0, A1, n1, c1, A2, n2, c2, A3, n3, c3, A4, n4, c4, rfl, r0, r1, r2, r3, r4⟩ := rTell_at hh
  have m0 : n0 ≤ maxLen := Nat.le_trans r0.2.1 r0.2.2.1
  have m1 : n1 ≤ maxLen := Nat.le_trans r1.2.1 r1.2.2.1
  have m2 : n2 ≤ maxLen := Nat.le_trans r2.2.1 r2.2.2.1
  have m3 : n3 ≤ maxLen := Nat.le_trans r3.2.1 r3.2.2.1
  have m4 : n4 ≤ maxLen := Nat.le_trans r4.2.1 r4.2.2.1
  unfold maxLen at m0 m1 m2 m3 m4
  have HLN := Lib.hid (And.intro r0.1 (And.intro r1.1 (And.intro r2.1 (And.intro r3.1 r4.1))))
  have hbel : Below w.heap.size w (w.alloc (.cells #[.slice A0 n0 c0, .slice A1 n1 c1, .slice A2 n2 c2, .slice A3 n3 c3, .slice A4 n4 c4] 31)) := below_new (Below.refl _ _) _
  have HKK := Lib.hid (Mm.Blk.new w 31 [.slice A0 n0 c0, .slice A1 n1 c1, .slice A2 n2 c2, .slice A3 n3 c3, .slice A4 n4 c4])
  have HR0 := Lib.hid (r0.keep fun b hb => hbel.block b (by omega))
  have HR1 := Lib.hid (r1.keep fun b hb => hbel.block b (by omega))
  have HR2 := Lib.hid (r2.keep fun b hb => hbel.block b (by omega))
  have HR3 := Lib.hid (r3.keep fun b hb => hbel.block b (by omega))
  have HR4 := Lib.hid (r4.keep fun b hb => hbel.block b (by omega))
  have HBW := Lib.hid (Nat.le_trans hB hbel.size)
  have HT0 := Lib.hid hbel
  clear hbel r0 r1 r2 r3 r4 hh hB
  go_enter Try.func20, Try.ntmps20
  go_upto_region 1 with fail
  obtain ⟨gt, hgt⟩ : ∃ gt, w.heap.size = gt := ⟨_, rfl⟩
  obtain ⟨W0, hW0⟩ : ∃ W0, w.alloc (.cells #[.slice A0 n0 c0, .slice A1 n1 c1, .slice A2 n2 c2, .slice A3 n3 c3, .slice A4 n4 c4] 31) = W0 := ⟨_, rfl⟩
  rw [show [Value.slice A0 n0 c0, .slice A1 n1 c1, .slice A2 n2 c2, .slice A3 n3 c3, .slice A4 n4 c4].toArray = #[.slice A0 n0 c0, .slice A1 n1 c1, .slice A2 n2 c2, .slice A3 n3 c3, .slice A4 n4 c4] from rfl, hW0, hgt] at HKK
  rw [hW0] at HR0 HR1 HR2 HR3 HR4 HT0 HBW
  rw [hW0, hgt]
  have HGT := Lib.hid hgt
  clear hW0 hgt
  have d0 := HKK.out.cell (i := 0) rfl
  have d1 := HKK.out.cell (i := 1) rfl
  have d2 := HKK.out.cell (i := 2) rfl
  have d3 := HKK.out.cell (i := 3) rfl
  have d4 := HKK.out.cell (i := 4) rfl
  by_cases p1 : Pl.isIn n0 1 4 = true
  rotate_left
  · have q1 : Pl.isIn n0 1 4 = false := by simpa using p1
    have HG : Hid (Pl.goodTell t = false) := Pl.good_bad1 (by unfold Pl.goodPre; rw [HLN.out.1, q1]; rfl)
    have HBX := Below.refl W0.heap.size W0
    have HP := Lib.hid p1
    clear p1
    go_wp2_with (go_at_call 56; (with_reducible refine (l1In_is q1 _).mono ?_); rintro e w' ⟨rfl, rfl⟩)
    go_ret
    exact ⟨ret_bool HG.out.symm, below_step HT0.out HBX⟩
  have hn4 := Pl.isIn_iff'.1 p1
  by_cases p2 : n1 = n0
  rotate_left
  · have q2 : (((n1 : Nat) : Int) != ((n0 : Nat) : Int)) = true := by simp; omega
    have HG : Hid (Pl.goodTell t = false) := Pl.good_bad1 (by unfold Pl.goodPre; rw [HLN.out.1, HLN.out.2.1, decide_eq_false p2]; simp)
    have HBX := Below.refl W0.heap.size W0
    have HP := Lib.hid p2
    clear p2
    go_wp2_with (go_at_call 56; (with_reducible refine (l1In_is p1 _).mono ?_); rintro e w' ⟨rfl, rfl⟩)
    go_ret
    exact ⟨ret_bool HG.out.symm, below_step HT0.out HBX⟩
  by_cases p3 : n4 = n0
  rotate_left
  · have q2 : (((n1 : Nat) : Int) != ((n0 : Nat) : Int)) = false := by simp; omega
    have q3 : (((n4 : Nat) : Int) != ((n0 : Nat) : Int)) = true := by simp; omega
    have HG : Hid (Pl.goodTell t = false) := Pl.good_bad1 (by unfold Pl.goodPre; rw [HLN.out.1, HLN.out.2.2.2.2, decide_eq_false p3]; simp)
    have HBX := Below.refl W0.heap.size W0
    have HP := Lib.hid (And.intro p2 p3)
    clear p2 p3
    go_wp2_with (go_at_call 56; (with_reducible refine (l1In_is p1 _).mono ?_); rintro e w' ⟨rfl, rfl⟩)
    go_ret
    exact ⟨ret_bool HG.out.symm, below_step HT0.out HBX⟩
  obtain rfl : n0 = n1 := p2.symm
  obtain rfl : n0 = n4 := p3.symm
  have q2 : (((n0 : Nat) : Int) != ((n0 : Nat) : Int)) = false := by simp
  by_cases p4 : n2 ≤ 30
  rotate_left
  · have q4 : decide ((30 : Int) < ((n2 : Nat) : Int)) = true := by simp; omega
    have HG : Hid (Pl.goodTell t = false) := Pl.good_bad1 (by unfold Pl.goodPre; rw [HLN.out.2.2.1, decide_eq_false p4]; simp)
    have HBX := Below.refl W0.heap.size W0
    go_wp2_with (go_at_call 56; (with_reducible refine (l1In_is p1 _).mono ?_); rintro e w' ⟨rfl, rfl⟩)
    go_ret
    exact ⟨ret_bool HG.out.symm, below_step HT0.out HBX⟩
  have q4 : decide ((30 : Int) < ((n2 : Nat) : Int)) = false := by simp; omega
  have HPRE : Hid (Pl.goodPre t = true) := by
    show _ = _
    unfold Pl.goodPre
    rw [HLN.out.1, HLN.out.2.1, HLN.out.2.2.1, HLN.out.2.2.2.2, p1, decide_eq_true p4]
    simp
  go_wp2_with (go_at_call 56; (with_reducible refine (l1In_is p1 _).mono ?_); rintro e w' ⟨rfl, rfl⟩)
  clear q2 q4
  go_loopg [42] n0 (fun g i wr => ∃ k : Nat, n0 - k ≤ g ∧ k ≤ n0 ∧ i = .int .i64 k ∧ Below W0.heap.size W0 wr ∧ Hid (∀ j, j < k → Pl.textOk t j = true))
  case atStart => exact ⟨0, Nat.le_refl _, Nat.zero_le _, rfl, Below.refl _ _, Lib.hid fun j hj => absurd hj (Nat.not_lt_zero _)⟩
  case round =>
    obtain ⟨k, hgk, hk, rfl, hbel, HA⟩ := hrel
    obtain ⟨W1, rfl⟩ : ∃ W1 : World, W1 = wr := ⟨_, rfl⟩
    by_cases hlt : k < n0
    · obtain ⟨l, b0, off0, a1, m1', c1', hx0, rfl, hb0, hl, e0⟩ := strs_get HR0.out hlt
      obtain ⟨b, b1, off1, hx1, rfl, hb1, hbi, e1⟩ := int_get HR1.out hlt
      obtain ⟨a, b4, off4, hx4, rfl, hb4, hai, e4⟩ := int_get HR4.out hlt
      have hml : m1' ≤ maxLen := Nat.le_trans hl.2.1 hl.2.2.1
      unfold maxLen at hml
      have HLL := Lib.hid hl.1
      replace e0 := below_some hbel e0
      replace e1 := below_some hbel e1
      replace e4 := below_some hbel e4
      replace d0 := below_some hbel d0
      replace d1 := below_some hbel d1
      replace d2 := below_some hbel d2
      replace d3 := below_some hbel d3
      replace d4 := below_some hbel d4
      have HBW1 := Lib.hid (Nat.le_trans HBW.out hbel.size)
      have HL := Lib.hid (hl.keep (w' := W1) fun b hb => hbel.block b (by have := HBW.out; omega))
      have HXX := Lib.hid (And.intro hx0 (And.intro hx4 hx1))
      clear hl hx0 hx1 hx4
      have f1 : ((k : Nat) : Int) < ((n0 : Nat) : Int) := by omega
      have f2 : (0 : Int) ≤ (k : Nat) := by omega
      have f3 : ((k : Nat) : Int).toNat = k := by omega
      go_wp2
      go_loopg [49] m1' (fun g2 i wr => ∃ j : Nat, m1' - j ≤ g2 ∧ j ≤ m1' ∧ i = .int .i64 j ∧ wr = W1 ∧ Hid (∀ (i : Nat) (s : ByteArray), i < j → l[i]? = some s → s.size ≤ 20))
      case atStart => exact ⟨0, Nat.le_refl _, Nat.zero_le _, rfl, rfl, Lib.hid fun i s hi => absurd hi (Nat.not_lt_zero _)⟩
      case round =>
        obtain ⟨j, hgj, hj, rfl, rfl, HJ⟩ := hrel
        by_cases hjl : j < m1'
        · obtain ⟨s, b9, off9, hs, rfl, hb9, hss, e9⟩ := str_get HL.out hjl
          unfold maxLen at hss
          have HSX := Lib.hid hs
          clear hs
          have f5 : ((j : Nat) : Int) < ((m1' : Nat) : Int) := by omega
          by_cases h20 : s.size ≤ 20
          · have u1 : decide ((20 : Int) < ((s.size : Nat) : Int)) = false := by simp; omega
            go_wp2
            go_roundg (m1' - (j + 1))
            case measure => omega
            case rel => exact ⟨j + 1, Nat.le_refl _, by omega, by go_num, rfl, Lib.hid fun i y hi hy => by
              rcases Nat.lt_succ_iff_lt_or_eq.1 hi with h1 | rfl
              · exact HJ.out i y h1 hy
              · rw [HSX.out] at hy; injection hy with hy; rw [← hy]; exact h20⟩
          · have u1 : decide ((20 : Int) < ((s.size : Nat) : Int)) = true := by simp; omega
            have HG : Hid (Pl.goodTell t = false) := Pl.text_bad HXX.out.1 HXX.out.2.1 HXX.out.2.2 (fun hh => by
              have := List.any_eq_false.1 hh.2.1 s (List.mem_of_getElem? HSX.out)
              simp at this; omega)
            have HBX := hbel
            go_wp2
            go_ret
            exact ⟨ret_bool HG.out.symm, below_step HT0.out HBX⟩
        · obtain rfl : m1' = j := by omega
          have f6 : ¬ ((m1' : Nat) : Int) < ((m1' : Nat) : Int) := by omega
          have HG2 : Hid (l.any (fun s => decide ((20 : Int) < (s.size : Nat))) = false) := Lib.hid (List.any_eq_false.2 fun x hx => by
            obtain ⟨i, hi⟩ := List.mem_iff_getElem?.1 hx
            have := HJ.out i x (by have := (List.getElem?_eq_some_iff.1 hi).1; rw [HLL.out] at this; exact this) hi
            simp; omega)
          by_cases g1 : m1' ≤ 20
          rotate_left
          · have u1 : decide ((20 : Int) < ((m1' : Nat) : Int)) = true := by simp; omega
            have HG : Hid (Pl.goodTell t = false) := Pl.text_bad HXX.out.1 HXX.out.2.1 HXX.out.2.2 (fun hh => by have := hh.1; rw [HLL.out] at this; omega)
            go_wp2
            refine wp_region_und (by kernel_rfl) (by kernel_rfl) ?_
            repeat (go_big_quiet_step ((first | fail)))
            refine wpQuiet_nil ?_
            intro X hX
            have HBX := below_step hbel hX
            go_wp2
            go_ret
            exact ⟨ret_bool HG.out.symm, below_step HT0.out HBX⟩
          have u1 : decide ((20 : Int) < ((m1' : Nat) : Int)) = false := by simp; omega
          obtain ⟨g3, hg3⟩ : ∃ g3, Pl.isIn a 0 ((m1' : Nat) : Int) = g3 := ⟨_, rfl⟩
          have HG3 := Lib.hid hg3
          clear hg3
          cases g3 with
          | false =>
            have HG : Hid (Pl.goodTell t = false) := Pl.text_bad HXX.out.1 HXX.out.2.1 HXX.out.2.2 (fun hh => by have := hh.2.2.1; rw [HLL.out, HG3.out] at this; cases this)
            go_wp2
            refine wp_region_und (by kernel_rfl) (by kernel_rfl) ?_
            repeat (go_big_quiet_step ((first | (go_at_call 56; exact und_same _ (l1In_is HG3.out _)))))
            refine wpQuiet_nil ?_
            intro X hX
            have HBX := below_step hbel hX
            go_wp2
            go_ret
            exact ⟨ret_bool HG.out.symm, below_step HT0.out HBX⟩
          | true =>
          obtain ⟨g4, hg4⟩ : ∃ g4, Pl.isIn b 0 a = g4 := ⟨_, rfl⟩
          have HG4 := Lib.hid hg4
          clear hg4
          cases g4 with
          | false =>
            have HG : Hid (Pl.goodTell t = false) := Pl.text_bad HXX.out.1 HXX.out.2.1 HXX.out.2.2 (fun hh => by have := hh.2.2.2; rw [HG4.out] at this; cases this)
            go_wp2
            refine wp_region_und (by kernel_rfl) (by kernel_rfl) ?_
            repeat (go_big_quiet_step ((first | (go_at_call 56; (with_reducible exact und_same _ (l1In_is HG3.out _))) | (go_at_call 56; (with_reducible exact und_same _ (l1In_is HG4.out _))))))
            refine wpQuiet_nil ?_
            intro X hX
            have HBX := below_step hbel hX
            go_wp2
            go_ret
            exact ⟨ret_bool HG.out.symm, below_step HT0.out HBX⟩
          | true =>
            have HO : Hid (Pl.textOk t k = true) := Pl.text_good HXX.out.1 HXX.out.2.1 HXX.out.2.2 ⟨by rw [HLL.out]; exact g1, HG2.out, by rw [HLL.out]; exact HG3.out, HG4.out⟩
            go_wp2
            refine wp_region_und (by kernel_rfl) (by kernel_rfl) ?_
            repeat (go_big_quiet_step ((first | (go_at_call 56; (with_reducible exact und_same _ (l1In_is HG3.out _))) | (go_at_call 56; (with_reducible exact und_same _ (l1In_is HG4.out _))))))
            refine wpQuiet_nil ?_
            intro X hX
            go_wp2
            go_roundg (n0 - (k + 1))
            case measure => omega
            case rel => exact ⟨k + 1, Nat.le_refl _, by omega, by go_num, below_step hbel hX, Lib.hid fun j hj => by
              rcases Nat.lt_succ_iff_lt_or_eq.1 hj with h1 | rfl
              · exact HA.out j h1
              · exact HO.out⟩
    · obtain rfl : n0 = k := by omega
      replace d0 := below_some hbel d0
      replace d1 := below_some hbel d1
      replace d2 := below_some hbel d2
      replace d3 := below_some hbel d3
      replace d4 := below_some hbel d4
      go_wp2
      clear d0 d1 d2 d3 d4
      go_loopw [89] (fun i wr => ∃ k : Nat, k ≤ n2 ∧ i = .int .i64 k ∧ Below W0.heap.size W0 wr ∧ Hid (∀ (j : Nat) (m : Note), j < k → t.Line[j]? = some m → Pl.noteOk t m = true)) (fun i _ => n2 - (intOf i).toNat)
      case atStart => exact ⟨0, Nat.zero_le _, rfl, hbel, Lib.hid fun j m hj => absurd hj (Nat.not_lt_zero _)⟩
      case round =>
        clear hbel
        obtain ⟨k2, hk2, rfl, hbel, HN⟩ := hrel
        obtain ⟨W2, rfl⟩ : ∃ W2 : World, W2 = wr := ⟨_, rfl⟩
        by_cases hlt : k2 < n2
        · obtain ⟨⟨bk, ⟨who, no, tx⟩⟩, b, off, hx, rfl, hb, mi0, mi1, mi2, e0, e1, e2, e3⟩ := rNote_get HR2.out hlt
          dsimp only at mi0 mi1 mi2 e0 e1 e2 e3
          replace e0 := below_some hbel e0
          replace e1 := below_some hbel e1
          replace e2 := below_some hbel e2
          replace e3 := below_some hbel e3
          have HX := Lib.hid hx
          have HMI := Lib.hid (And.intro mi0 (And.intro mi1 mi2))
          clear hx mi0 mi1 mi2
          have f1 : ((k2 : Nat) : Int) < ((n2 : Nat) : Int) := by omega
          have hw1 : IntKind.i64.wrap ((n0 : Int) - 1) = (n0 : Int) - 1 := IntWalk.i64_in _ (by omega)
          go_upto_region 19 with fail
          obtain ⟨gm, hgm⟩ : ∃ gm, W2.heap.size = gm := ⟨_, rfl⟩
          obtain ⟨W3, hW3⟩ : ∃ W3, W2.alloc (.cells #[.bool bk, .int .i64 who, .int .i64 no, .string tx] 94) = W3 := ⟨_, rfl⟩
          have HS := Lib.hid (((Mm.SepF.start W2).alloc' hgm 94 [.bool bk, .int .i64 who, .int .i64 no, .string tx]).atW hW3)
          rw [hW3, hgm]
          clear hW3 hgm e0 e1 e2 e3
          have hb3 := below_step hbel HS.out.bel0
          have HB0 := hb3
          have d0 := below_some HB0 (HKK.out.cell (i := 0) rfl)
          have d1 := below_some HB0 (HKK.out.cell (i := 1) rfl)
          have d2 := below_some HB0 (HKK.out.cell (i := 2) rfl)
          have d3 := below_some HB0 (HKK.out.cell (i := 3) rfl)
          have d4 := below_some HB0 (HKK.out.cell (i := 4) rfl)
          have m0 := HS.out.cell (k := 0) 0 rfl rfl
          have m1 := HS.out.cell (k := 1) 0 rfl rfl
          have m2 := HS.out.cell (k := 2) 0 rfl rfl
          have m3 := HS.out.cell (k := 3) 0 rfl rfl
          obtain ⟨g1, hg1⟩ : ∃ g1, Pl.isIn who 0 ((n0 : Int) - 1) = g1 := ⟨_, rfl⟩
          have HG1 := Lib.hid hg1
          clear hg1
          cases g1 with
          | false =>
            have HG : Hid (Pl.goodTell t = false) := Pl.good_bad3 HX.out (by unfold Pl.noteOk; dsimp only; rw [HLN.out.1, HG1.out]; rfl)
            go_wp2
            refine wp_region_und (by kernel_rfl) (by kernel_rfl) ?_
            repeat (go_big_quiet_step ((first | (go_at_call 57; (with_reducible exact und_call _ (l10Who_is HG1.out _))))))
            refine wpQuiet_nil ?_
            intro X hX
            have HBX := below_step hb3 hX
            go_wp2
            go_ret
            exact ⟨ret_bool HG.out.symm, below_step HT0.out HBX⟩
          | true =>
            have hwho := Pl.isIn_iff'.1 HG1.out
            obtain ⟨q, rfl⟩ : ∃ q : Nat, who = q := ⟨who.toNat, by omega⟩
            have hqn : q < n0 := by omega
            obtain ⟨a, b4, off4, hx4, rfl, hb4, hai, e4⟩ := int_get HR4.out hqn
            replace e4 := below_some hb3 e4
            have HIA := Lib.hid (Pl.iAt_of (l := t.Next) (k := (q : Int)) (a := a) (by simpa using hx4))
            clear hx4
            have f2 : ((q : Nat) : Int) < ((n0 : Nat) : Int) := by omega
            have f3 : (0 : Int) ≤ (q : Nat) := by omega
            have f4 : ((q : Nat) : Int).toNat = q := by omega
            cases bk with
            | true =>
              cases he : tx.toList.isEmpty with
              | false =>
                have HG : Hid (Pl.goodTell t = false) := Pl.good_bad3 HX.out (by rw [Pl.note_b, he]; simp)
                go_wp2
                refine wp_region_und (by kernel_rfl) (by kernel_rfl) ?_
                repeat (go_big_quiet_step ((first | (go_at_call 57; (with_reducible exact und_call _ (l10Who_is HG1.out _))))))
                refine wpQuiet_nil ?_
                intro X hX
                have HBX := below_step hb3 hX
                go_wp2
                go_ret
                exact ⟨ret_bool HG.out.symm, below_step HT0.out HBX⟩
              | true =>
                obtain ⟨g2, hg2⟩ : ∃ g2, Pl.isIn no 0 a = g2 := ⟨_, rfl⟩
                have HG2 := Lib.hid hg2
                clear hg2
                cases g2 with
                | false =>
                  have HG : Hid (Pl.goodTell t = false) := Pl.good_bad3 HX.out (by rw [Pl.note_b, HIA.out, HG2.out]; simp)
                  obtain rfl := ba_isEmpty he
                  clear he
                  go_wp2
                  refine wp_region_und (by kernel_rfl) (by kernel_rfl) ?_
                  repeat (go_big_quiet_step ((first | (go_at_call 57; (with_reducible exact und_call _ (l10Who_is HG1.out _))) | (go_at_call 56; (with_reducible exact und_same _ (l1In_is HG2.out _))))))
                  refine wpQuiet_nil ?_
                  intro X hX
                  have HBX := below_step hb3 hX
                  go_wp2
                  go_ret
                  exact ⟨ret_bool HG.out.symm, below_step HT0.out HBX⟩
                | true =>
                  have HO : Hid (Pl.noteOk t ⟨true, ⟨q, no, tx⟩⟩ = true) := Lib.hid (by rw [Pl.note_b, HIA.out, HG2.out, he, HLN.out.1, HG1.out]; rfl)
                  obtain rfl := ba_isEmpty he
                  clear he
                  go_wp2
                  refine wp_region_und (by kernel_rfl) (by kernel_rfl) ?_
                  repeat (go_big_quiet_step ((first | (go_at_call 57; (with_reducible exact und_call _ (l10Who_is HG1.out _))) | (go_at_call 56; (with_reducible exact und_same _ (l1In_is HG2.out _))))))
                  refine wpQuiet_nil ?_
                  intro X hX
                  go_wp2
                  go_roundw
                  case rel => exact ⟨k2 + 1, by omega, by go_num, below_step hb3 hX, Lib.hid fun j m hj hm => by
                    rcases Nat.lt_succ_iff_lt_or_eq.1 hj with h1 | rfl
                    · exact HN.out j m h1 hm
                    · rw [HX.out] at hm; injection hm with hm; rw [← hm]; exact HO.out⟩
                  case measure => simp [intOf]; omega
            | false =>
              obtain ⟨g2, hg2⟩ : ∃ g2, Pl.txtOk t ⟨q, no, tx⟩ = g2 := ⟨_, rfl⟩
              have HG2 := Lib.hid hg2
              clear hg2
              have HSG : Hid (Pl.saidOk t ⟨q, no, tx⟩ = g2) := Lib.hid (by rw [Pl.said_eq, HG2.out, HLN.out.1]; dsimp only; rw [HG1.out]; simp)
              have CT := fun (a1 a2 a3 a4 : Option Addr) (i1 i2 i3 i4 k1 k2 k3 k4 : Nat) (z : Und W3) => und_call z (show Calls Try.prog 58 #[.agg #[.slice A0 n0 c0, .slice a1 i1 k1, .slice a2 i2 k2, .slice a3 i3 k3, .slice a4 i4 k4], .agg #[.int .i64 q, .int .i64 no, .string tx]] (und W3 z) fun e w' => e = .returned (.bool g2) ∧ Below (und W3 z).heap.size (und W3 z) w' from HSG.out ▸ l10Said_c t ⟨q, no, tx⟩ A0 a1 a2 a3 a4 n0 i1 i2 i3 i4 c0 k1 k2 k3 k4 (und W3 z) B ((HR0.out.keep fun b hb => hb3.block b (Nat.lt_of_lt_of_le hb HBW.out)).und (Nat.le_trans HBW.out hb3.size) z) (Nat.le_trans (Nat.le_trans HBW.out hb3.size) (und_size z)))
              cases g2 with
              | false =>
                have HG : Hid (Pl.goodTell t = false) := Pl.good_bad3 HX.out (by rw [Pl.note_f, HG2.out]; simp)
                go_wp2
                refine wp_region_und (by kernel_rfl) (by kernel_rfl) ?_
                repeat (go_big_quiet_step ((first | (go_at_call 57; (with_reducible exact und_call _ (l10Who_is HG1.out _))) | (with_reducible exact CT _ _ _ _ _ _ _ _ _ _ _ _ _))))
                refine wpQuiet_nil ?_
                intro X hX
                have HBX := below_step hb3 hX
                go_wp2
                go_ret
                exact ⟨ret_bool HG.out.symm, below_step HT0.out HBX⟩
              | true =>
                have HO : Hid (Pl.noteOk t ⟨false, ⟨q, no, tx⟩⟩ = true) := Lib.hid (by rw [Pl.note_f, HG2.out, HLN.out.1]; dsimp only; rw [HG1.out]; rfl)
                go_wp2
                refine wp_region_und (by kernel_rfl) (by kernel_rfl) ?_
                repeat (go_big_quiet_step ((first | (go_at_call 57; (with_reducible exact und_call _ (l10Who_is HG1.out _))) | (with_reducible exact CT _ _ _ _ _ _ _ _ _ _ _ _ _))))
                refine wpQuiet_nil ?_
                intro X hX
                go_wp2
                go_roundw
                case rel => exact ⟨k2 + 1, by omega, by go_num, below_step hb3 hX, Lib.hid fun j m hj hm => by
                  rcases Nat.lt_succ_iff_lt_or_eq.1 hj with h1 | rfl
                  · exact HN.out j m h1 hm
                  · rw [HX.out] at hm; injection hm with hm; rw [← hm]; exact HO.out⟩
                case measure => simp [intOf]; omega
        · obtain rfl : n2 = k2 := by omega
          have HB0 := hbel
          have d0 := below_some HB0 (HKK.out.cell (i := 0) rfl)
          have d1 := below_some HB0 (HKK.out.cell (i := 1) rfl)
          have d2 := below_some HB0 (HKK.out.cell (i := 2) rfl)
          have d3 := below_some HB0 (HKK.out.cell (i := 3) rfl)
          have d4 := below_some HB0 (HKK.out.cell (i := 4) rfl)
          have hmn := make_nums n0 (by omega) (by omega)
          go_wp2
          have HTB := Lib.hid (fun (q : Nat) (hq : q < n0) => Pl.text_len (HA.out q hq) (by rw [HLN.out.1]; exact hq) (by rw [HLN.out.2.2.2.2]; exact hq) (by rw [HLN.out.2.1]; exact hq))
          obtain ⟨gs, hgs⟩ : ∃ gs, W2.heap.size = gs := ⟨_, rfl⟩
          have HS0 := Lib.hid ((Mm.SepF.start W2).add (W := W2.alloc (.cells (List.replicate n0 (Value.int .i64 0)).toArray 3)) (below_new (Below.refl _ _) _) (t := Mm.tsl Mm.int 3 (List.replicate n0 0) (.slice (some ⟨W2.heap.size, 0, none⟩) n0 n0) [W2.heap.size]) (nums_own (by omega)) (by simp [Mm.tsl]) (fun b hb => by rw [show b = W2.heap.size by simpa [Mm.tsl] using hb]; exact Nat.le_refl _))
          rw [hgs] at HS0 ⊢
          clear hmn hgs d0 d1 d2 d3 d4
          go_loopw [141] (fun i wr => ∃ (k : Nat) (s : List Int), k ≤ n3 ∧ i = .int .i64 k ∧ Hid (Pl.logRun t (t.Log.take k) = some s ∧ Mm.SepF [] W2 wr [Mm.tsl Mm.int 3 s (.slice (some ⟨gs, 0, none⟩) n0 n0) [gs]])) (fun i _ => n3 - (intOf i).toNat)
          case atStart => exact ⟨0, _, Nat.zero_le _, rfl, Lib.hid ⟨by unfold Pl.logRun; rw [List.take_zero, List.foldl_nil, HLN.out.1], HS0.out⟩⟩
          case round =>
            clear HS0
            obtain ⟨k3, s, hk3, rfl, HS'⟩ := hrel
            obtain ⟨Wr, rfl⟩ : ∃ Wr : World, Wr = wr := ⟨_, rfl⟩
            have HLR := Lib.hid HS'.out.1
            have HS := Lib.hid HS'.out.2
            clear HS'
            have hb2 := below_step hbel HS.out.bel0
            have hsl := (Pl.logRun_len _ _ rfl s HLR.out).1
            rw [HLN.out.1] at hsl
            have HSL := Lib.hid hsl
            by_cases hlt : k3 < n3
            · obtain ⟨⟨who, no, tx⟩, b, off, hx, rfl, hb, mi0, mi1, mi2, e0, e1, e2⟩ := rTold_get HR3.out hlt
              dsimp only at mi0 mi1 mi2 e0 e1 e2
              replace e0 := below_some hb2 e0
              replace e1 := below_some hb2 e1
              replace e2 := below_some hb2 e2
              have HX := Lib.hid hx
              have HMI := Lib.hid (And.intro mi0 (And.intro mi1 mi2))
              clear hx mi0 mi1 mi2
              have f1 : ((k3 : Nat) : Int) < ((n3 : Nat) : Int) := by omega
              have hw1 : IntKind.i64.wrap ((n0 : Int) - 1) = (n0 : Int) - 1 := IntWalk.i64_in _ (by omega)
              have HTK := Lib.hid (Mm.take_succ_some HX.out)
              clear hsl
              go_upto_region 26 with fail
              obtain ⟨gx, hgx⟩ : ∃ gx, Wr.heap.size = gx := ⟨_, rfl⟩
              obtain ⟨W3, hW3⟩ : ∃ W3, Wr.alloc (.cells #[.int .i64 who, .int .i64 no, .string tx] 52) = W3 := ⟨_, rfl⟩
              have HS3 := Lib.hid ((HS.out.alloc' hgx 52 [.int .i64 who, .int .i64 no, .string tx]).atW hW3)
              rw [hW3, hgx]
              clear hW3 hgx e0 e1 e2 hb2
              have hb3 := below_step hbel HS3.out.bel0
              have HB0 := hb3
              have d0 := below_some HB0 (HKK.out.cell (i := 0) rfl)
              have d1 := below_some HB0 (HKK.out.cell (i := 1) rfl)
              have d2 := below_some HB0 (HKK.out.cell (i := 2) rfl)
              have d3 := below_some HB0 (HKK.out.cell (i := 3) rfl)
              have d4 := below_some HB0 (HKK.out.cell (i := 4) rfl)
              have y0 := HS3.out.cell (k := 0) 0 rfl rfl
              have y1 := HS3.out.cell (k := 1) 0 rfl rfl
              have y2 := HS3.out.cell (k := 2) 0 rfl rfl
              obtain ⟨g1, hg1⟩ : ∃ g1, Pl.isIn who 0 ((n0 : Int) - 1) = g1 := ⟨_, rfl⟩
              have HG1 := Lib.hid hg1
              clear hg1
              cases g1 with
              | false =>
                have HSD : Hid (Pl.saidOk t ⟨who, no, tx⟩ = false) := Lib.hid (by rw [Pl.said_eq]; dsimp only; rw [HLN.out.1, HG1.out]; rfl)
                have HG : Hid (Pl.goodTell t = false) := Pl.good_bad4 HLR.out HX.out (Pl.log_no (.inl HSD.out))
                have CT := fun (a1 a2 a3 a4 : Option Addr) (i1 i2 i3 i4 k1 k2 k3 k4 : Nat) (z : Und W3) => und_call z (show Calls Try.prog 58 #[.agg #[.slice A0 n0 c0, .slice a1 i1 k1, .slice a2 i2 k2, .slice a3 i3 k3, .slice a4 i4 k4], .agg #[.int .i64 who, .int .i64 no, .string tx]] (und W3 z) fun e w' => e = .returned (.bool false) ∧ Below (und W3 z).heap.size (und W3 z) w' from HSD.out ▸ l10Said_c t ⟨who, no, tx⟩ A0 a1 a2 a3 a4 n0 i1 i2 i3 i4 c0 k1 k2 k3 k4 (und W3 z) B ((HR0.out.keep fun b hb => hb3.block b (Nat.lt_of_lt_of_le hb HBW.out)).und (Nat.le_trans HBW.out hb3.size) z) (Nat.le_trans (Nat.le_trans HBW.out hb3.size) (und_size z)))
                go_wp2
                refine wp_region_und (by kernel_rfl) (by kernel_rfl) ?_
                repeat (go_big_quiet_step ((first | (with_reducible exact CT _ _ _ _ _ _ _ _ _ _ _ _ _))))
                refine wpQuiet_nil ?_
                intro X hX
                have HBX := below_step hb3 hX
                go_wp2
                go_ret
                exact ⟨ret_bool HG.out.symm, below_step HT0.out HBX⟩
              | true =>
                have hwho := Pl.isIn_iff'.1 HG1.out
                obtain ⟨q, rfl⟩ : ∃ q : Nat, who = q := ⟨who.toNat, by omega⟩
                have hqn : q < n0 := by omega
                have hqs : q < s.length := by rw [HSL.out]; exact hqn
                have hv := List.getElem?_eq_getElem hqs
                generalize s[q] = v at hv
                have HV := Lib.hid hv
                have HIV := Lib.hid (Pl.iAt_of (l := s) (k := (q : Int)) (a := v) (by simpa using hv))
                clear hv hqs
                have e5 := int_ocell (HS3.out.sl 1 rfl) (HS3.out.ndat (i := 1) rfl) HV.out
                have f2 : ((q : Nat) : Int) < ((n0 : Nat) : Int) := by omega
                have f3 : (0 : Int) ≤ (q : Nat) := by omega
                have f4 : ((q : Nat) : Int).toNat = q := by omega
                have HK3 := Lib.hid (HKK.out.bel hb3)
                obtain ⟨g2, hg2⟩ : ∃ g2, Pl.txtOk t ⟨q, no, tx⟩ = g2 := ⟨_, rfl⟩
                have HG2 := Lib.hid hg2
                clear hg2
                have HSG : Hid (Pl.saidOk t ⟨q, no, tx⟩ = g2) := Lib.hid (by rw [Pl.said_eq, HG2.out, HLN.out.1]; dsimp only; rw [HG1.out]; simp)
                have CT := fun (a1 a2 a3 a4 : Option Addr) (i1 i2 i3 i4 k1 k2 k3 k4 : Nat) (z : Und W3) => und_call z (show Calls Try.prog 58 #[.agg #[.slice A0 n0 c0, .slice a1 i1 k1, .slice a2 i2 k2, .slice a3 i3 k3, .slice a4 i4 k4], .agg #[.int .i64 q, .int .i64 no, .string tx]] (und W3 z) fun e w' => e = .returned (.bool g2) ∧ Below (und W3 z).heap.size (und W3 z) w' from HSG.out ▸ l10Said_c t ⟨q, no, tx⟩ A0 a1 a2 a3 a4 n0 i1 i2 i3 i4 c0 k1 k2 k3 k4 (und W3 z) B ((HR0.out.keep fun b hb => hb3.block b (Nat.lt_of_lt_of_le hb HBW.out)).und (Nat.le_trans HBW.out hb3.size) z) (Nat.le_trans (Nat.le_trans HBW.out hb3.size) (und_size z)))
                by_cases hnv : no = v
                · subst hnv
                  have u1 : (no != no) = false := by simp
                  cases g2 with
                  | false =>
                    have HSD : Hid (Pl.saidOk t ⟨q, no, tx⟩ = false) := Lib.hid (by rw [Pl.said_eq, HG2.out]; simp)
                    have HG : Hid (Pl.goodTell t = false) := Pl.good_bad4 HLR.out HX.out (Pl.log_no (.inl HSD.out))
                    go_wp2
                    refine wp_region_und (by kernel_rfl) (by kernel_rfl) ?_
                    repeat (go_big_quiet_step ((first | (with_reducible exact CT _ _ _ _ _ _ _ _ _ _ _ _ _))))
                    refine wpQuiet_nil ?_
                    intro X hX
                    have HBX := below_step hb3 hX
                    go_wp2
                    go_ret
                    exact ⟨ret_bool HG.out.symm, below_step HT0.out HBX⟩
                  | true =>
                    have HSD : Hid (Pl.saidOk t ⟨q, no, tx⟩ = true) := Lib.hid (by rw [Pl.said_eq, HG2.out, HLN.out.1]; dsimp only; rw [HG1.out]; rfl)
                    have hnb := Pl.txt_no HG2.out
                    dsimp only at hnb
                    have hb20 : (Pl.tAt t (q : Int)).length ≤ 20 := HTB.out q hqn
                    have HY : Hid (Pl.logRun t (t.Log.take (k3 + 1)) = some (s.set q (no + 1))) := Lib.hid (by
                      rw [HTK.out, Pl.logRun_snoc, HLR.out]
                      show Pl.logStep t s _ = _
                      rw [Pl.log_yes HSD.out HIV.out.symm, HIV.out]
                      rfl)
                    have hno1 : Mm.I64 (no + 1) := by unfold Mm.I64; omega
                    have hw2 : IntKind.i64.wrap (no + 1) = no + 1 := IntWalk.i64_in _ (by omega)
                    go_wp2
                    refine wp_region_und (by kernel_rfl) (by kernel_rfl) ?_
                    repeat (go_big_quiet_step ((first | (with_reducible exact CT _ _ _ _ _ _ _ _ _ _ _ _ _))))
                    refine wpQuiet_nil ?_
                    intro X hX
                    have HS4 := Lib.hid (HS3.out.step hX)
                    replace y0 := below_some hX y0
                    have e6 := int_ocell (HS4.out.sl 1 rfl) (HS4.out.ndat (i := 1) rfl) HV.out
                    have z6 := (HS4.out.sl 1 rfl).frozen q
                    have HS5 := Lib.hid (HS4.out.put1 (k := q) 1 rfl rfl HV.out (x' := no + 1) (u := .int .i64 (no + 1)) (fun cs fx hh => by obtain ⟨rfl, _, rfl⟩ := hh; exact ⟨rfl, hno1, rfl⟩))
                    go_wp2
                    go_roundw
                    case rel => exact ⟨k3 + 1, _, by omega, by go_num, Lib.hid ⟨HY.out, HS5.out.sel [1] (by decide) rfl⟩⟩
                    case measure => simp [intOf]; omega
                · have u1 : ((v != no)) = true := by simp; omega
                  have HG : Hid (Pl.goodTell t = false) := Pl.good_bad4 HLR.out HX.out (Pl.log_no (.inr (by rw [HIV.out]; exact hnv)))
                  have HNV := Lib.hid hnv
                  clear hnv
                  cases g2 with
                  | false =>
                    go_wp2
                    refine wp_region_und (by kernel_rfl) (by kernel_rfl) ?_
                    repeat (go_big_quiet_step ((first | (with_reducible exact CT _ _ _ _ _ _ _ _ _ _ _ _ _))))
                    refine wpQuiet_nil ?_
                    intro X hX
                    have HBX := below_step hb3 hX
                    go_wp2
                    go_ret
                    exact ⟨ret_bool HG.out.symm, below_step HT0.out HBX⟩
                  | true =>
                    go_wp2
                    refine wp_region_und (by kernel_rfl) (by kernel_rfl) ?_
                    repeat (go_big_quiet_step ((first | (with_reducible exact CT _ _ _ _ _ _ _ _ _ _ _ _ _))))
                    refine wpQuiet_nil ?_
                    intro X hX
                    have HBX := below_step hb3 hX
                    go_wp2
                    go_ret
                    exact ⟨ret_bool HG.out.symm, below_step HT0.out HBX⟩
            · obtain rfl : n3 = k3 := by omega
              have HTE : Hid (t.Log.take n3 = t.Log) := List.take_of_length_le (by rw [HLN.out.2.2.2.1]; exact Nat.le_refl _)
              rw [HTE.out] at HLR
              have HG : Hid (Pl.goodTell t = decide (s = t.Next)) := Pl.good_all HPRE.out (fun j hj => HA.out j (by rw [HLN.out.1] at hj; omega)) (fun j m hm => HN.out j m (by have := (List.getElem?_eq_some_iff.1 hm).1; rw [HLN.out.2.2.1] at this; exact this) hm) HLR.out
              have HB0 := hb2
              have d0 := below_some HB0 (HKK.out.cell (i := 0) rfl)
              have d1 := below_some HB0 (HKK.out.cell (i := 1) rfl)
              have d2 := below_some HB0 (HKK.out.cell (i := 2) rfl)
              have d3 := below_some HB0 (HKK.out.cell (i := 3) rfl)
              have d4 := below_some HB0 (HKK.out.cell (i := 4) rfl)
              clear hsl
              go_wp2_with (go_at_call 59; refine (l1Same_c s t.Next _ _ _ _ _ _ Wr Wr.heap.size (HS.out.rdSl 0 rfl) ((HR4.out.keep fun b hb => hb2.block b (Nat.lt_of_lt_of_le hb HBW.out)).more (Nat.le_trans HBW.out hb2.size)) (Nat.le_refl _)).mono ?_; rintro e w9 ⟨rfl, hb9⟩)
              go_ret
              exact ⟨ret_bool HG.out.symm, below_step HT0.out (below_step hb2 hb9)⟩
end Go.Proofs.Ytaepohocabealaa

/-
  Contracts: slices.Clone where the elements lead nowhere. No conditions.
-/
namespace Go.Proofs.Ytaepohocabealaa
open Go.RowKit
theorem Try.info_clInt : (Try.prog.info? 3).map (fun i => (i.zero, i.size, i.bytes)) = some (some (.int .i64 0), 1, 8) := by kernel_rfl
set_option maxHeartbeats 1000000 in
theorem clInt_c (l : List Int) (A : Option Addr) (n c : Nat) (w : World) (B : Nat) (hl : Mm.SlAt Mm.int w B l A n c) (hn : n ≤ 1048576) :
    Calls Try.prog 100 #[.slice A n c] w (Mm.NewSl Mm.int 3 w l) := by
  have hlen := Lib.hid hl.1
  have hcap := hl.2.1
  have hq : ∀ (w : World) (a : Option Addr) (n c n' c' : Nat), (binOp .eql 27 (.slice a n c) (.slice none n' c')).run Try.prog w = .ok (.bool a.isNone) w := fun w a n c n' c' => Lib.run_eql_slice_nil w _ _ a n c n' c' Try.underlying27
  cases A with
  | none =>
    have hc : c = 0 := hl.2.2.2.1 rfl
    have hl0 : l = [] := List.length_eq_zero_iff.1 (by rw [hlen.out]; omega)
    subst hl0
    clear hl
    go_enter Try.func100, Try.ntmps100
    go_wp2
    go_ret
    exact (Mm.Acc.nil (Below.refl _ _)).newsl
  | some a =>
    have HC := Lib.hid (Mm.flat_cells' (E := Mm.int) (enc := (fun x : Int => ([.int .i64 x] : List Value))) (fun x cs h => h.1) hl)
    have HLN := Lib.hid (Mm.flat_len (E := Mm.int) (enc := (fun x : Int => ([.int .i64 x] : List Value))) (fun x cs h => h.1) hl)
    have HOK : Hid (∀ (w' : World) x, x ∈ l → (Mm.int).own w' x ((fun x : Int => ([.int .i64 x] : List Value)) x) []) := fun w' x hx => by
      obtain ⟨i, hi, rfl⟩ := List.mem_iff_getElem.1 hx
      obtain ⟨y, b, off, cs, hy, _, _, ha, _⟩ := hl.get (k := i) (by rw [← hlen.out]; exact hi)
      rw [List.getElem?_eq_getElem hi] at hy
      injection hy with hy
      subst hy
      exact ⟨rfl, ha.2, rfl⟩
    have H1 : Hid (∀ u : Value, u ∈ l.flatMap (fun x : Int => ([.int .i64 x] : List Value)) → u.oneCell' = true) := fun u hu => by
      obtain ⟨x, hx, hu⟩ := List.mem_flatMap.1 hu
      exact Mm.int.one (HOK.out w x hx) u hu
    clear hl
    obtain ⟨i0, hi, hz0, hz1, hz2⟩ := info_parts Try.info_clInt
    go_enter Try.func100, Try.ntmps100
    go_wp2_with (at_builtin; refine wpList_append_own_at _ rfl _ _ 27 rfl w.heap.size 3 i0 (.int .i64 0) 1 8 Try.underlying27 hi hz0 hz1 hz2 rfl (by decide) _ _ _ rfl (World.ownsRow_made w #[] 0 (Nat.le_refl _) (Nat.zero_le _) rfl) a n c (l.flatMap (fun x : Int => ([.int .i64 x] : List Value))) rfl HLN.out (fun j u hj => Lib.cell?_alloc_some _ (HC.out j u hj)) H1.out (by unfold maxLen; omega) (by omega) (by simp) ?_; intro v' w1 hown hgrow hnil hat)
    have HA := Lib.hid (Mm.clone_post (E := Mm.int) (e := 3) (Nat.zero_add _) (List.nil_append _) hown hgrow (fun x hx => HOK.out _ x hx) hlen.out)
    clear hown hgrow hat hnil
    go_wp2
    go_ret
    exact HA.out.newsl
theorem Try.info_clStr : (Try.prog.info? 9).map (fun i => (i.zero, i.size, i.bytes)) = some (some (.string { data := #[] }), 1, 16) := by kernel_rfl
set_option maxHeartbeats 1000000 in
theorem clStr_c (l : List ByteArray) (A : Option Addr) (n c : Nat) (w : World) (B : Nat) (hl : Mm.SlAt Mm.str w B l A n c) (hn : n ≤ 1048576) :
    Calls Try.prog 99 #[.slice A n c] w (Mm.NewSl Mm.str 9 w l) := by
  have hlen := Lib.hid hl.1
  have hcap := hl.2.1
  have hq : ∀ (w : World) (a : Option Addr) (n c n' c' : Nat), (binOp .eql 40 (.slice a n c) (.slice none n' c')).run Try.prog w = .ok (.bool a.isNone) w := fun w a n c n' c' => Lib.run_eql_slice_nil w _ _ a n c n' c' Try.underlying40
  cases A with
  | none =>
    have hc : c = 0 := hl.2.2.2.1 rfl
    have hl0 : l = [] := List.length_eq_zero_iff.1 (by rw [hlen.out]; omega)
    subst hl0
    clear hl
    go_enter Try.func99, Try.ntmps99
    go_wp2
    go_ret
    exact (Mm.Acc.nil (Below.refl _ _)).newsl
  | some a =>
    have HC := Lib.hid (Mm.flat_cells' (E := Mm.str) (enc := (fun x : ByteArray => ([.string x] : List Value))) (fun x cs h => h.1) hl)
    have HLN := Lib.hid (Mm.flat_len (E := Mm.str) (enc := (fun x : ByteArray => ([.string x] : List Value))) (fun x cs h => h.1) hl)
    have HOK : Hid (∀ (w' : World) x, x ∈ l → (Mm.str).own w' x ((fun x : ByteArray => ([.string x] : List Value)) x) []) := fun w' x hx => by
      obtain ⟨i, hi, rfl⟩ := List.mem_iff_getElem.1 hx
      obtain ⟨y, b, off, cs, hy, _, _, ha, _⟩ := hl.get (k := i) (by rw [← hlen.out]; exact hi)
      rw [List.getElem?_eq_getElem hi] at hy
      injection hy with hy
      subst hy
      exact ⟨rfl, ha.2, rfl⟩
    have H1 : Hid (∀ u : Value, u ∈ l.flatMap (fun x : ByteArray => ([.string x] : List Value)) → u.oneCell' = true) := fun u hu => by
      obtain ⟨x, hx, hu⟩ := List.mem_flatMap.1 hu
      exact Mm.str.one (HOK.out w x hx) u hu
    clear hl
    obtain ⟨i0, hi, hz0, hz1, hz2⟩ := info_parts Try.info_clStr
    go_enter Try.func99, Try.ntmps99
    go_wp2_with (at_builtin; refine wpList_append_own_at _ rfl _ _ 40 rfl w.heap.size 9 i0 (.string { data := #[] }) 1 16 Try.underlying40 hi hz0 hz1 hz2 rfl (by decide) _ _ _ rfl (World.ownsRow_made w #[] 0 (Nat.le_refl _) (Nat.zero_le _) rfl) a n c (l.flatMap (fun x : ByteArray => ([.string x] : List Value))) rfl HLN.out (fun j u hj => Lib.cell?_alloc_some _ (HC.out j u hj)) H1.out (by unfold maxLen; omega) (by omega) (by simp) ?_; intro v' w1 hown hgrow hnil hat)
    have HA := Lib.hid (Mm.clone_post (E := Mm.str) (e := 9) (Nat.zero_add _) (List.nil_append _) hown hgrow (fun x hx => HOK.out _ x hx) hlen.out)
    clear hown hgrow hat hnil
    go_wp2
    go_ret
    exact HA.out.newsl
end Go.Proofs.Ytaepohocabealaa

/-
  Slices of slices that are cloned row by row: first the headers alone are copied, then each row is replaced by its clone. No program in sight. No conditions.
-/
namespace Go.Proofs.Ytaepohocabealaa
open Go.RowKit
namespace Mm
abbrev Hdr := Option Addr × Nat × Nat
def hval (h : Hdr) : Value := .slice h.1 h.2.1 h.2.2
def hdr : Rep Hdr := flat 1 (fun h => [hval h]) (fun _ => True) (fun _ => rfl) (fun _ u hu => by rw [List.mem_singleton.1 hu]; rfl)
theorem flat_hdr : Flat hdr (fun h => [hval h]) := ⟨fun h => h.1, fun h w' => ⟨rfl, trivial, rfl⟩⟩
theorem flatN_hdr : FlatN hdr (fun h => [hval h]) := ⟨by decide, fun h => by
  obtain ⟨rfl, h1, rfl⟩ := h
  exact ⟨rfl, rfl, fun w' => ⟨rfl, trivial, rfl⟩⟩⟩
/-- a row of the call's own, or a header alone -/
def orv {α : Type} (E : Rep α) (e : TypeId) : Rep (List α ⊕ Hdr) where
  size := 1
  at_ := fun w B x cs => match x with
    | .inl xs => (slice E e).at_ w B xs cs
    | .inr h => cs = [hval h]
  own := fun w x cs fp => match x with
    | .inl xs => (slice E e).own w xs cs fp
    | .inr h => cs = [hval h] ∧ fp = []
  len := fun {w B x cs} h => by
    cases x with
    | inl xs => exact (slice E e).len h
    | inr y => rw [show cs = [hval y] from h]; rfl
  olen := fun {w x cs fp} h => by
    cases x with
    | inl xs => exact (slice E e).olen h
    | inr y => rw [show cs = [hval y] from h.1]; rfl
  one := fun {w x cs fp} h u hu => by
    cases x with
    | inl xs => exact (slice E e).one h u hu
    | inr y => rw [show cs = [hval y] from h.1] at hu; rw [List.mem_singleton.1 hu]; rfl
  keep := fun {w w' B x cs} h k => by
    cases x with
    | inl xs => exact (slice E e).keep h k
    | inr y => exact h
  more := fun {w B B' x cs} h k => by
    cases x with
    | inl xs => exact (slice E e).more h k
    | inr y => exact h
  okeep := fun {w w' x cs fp} h k => by
    cases x with
    | inl xs => exact (slice E e).okeep h k
    | inr y => exact h
  olt := fun {w x cs fp} h b hb => by
    cases x with
    | inl xs => exact (slice E e).olt h b hb
    | inr y => rw [show fp = [] from h.2] at hb; cases hb
  weak := fun {w B x cs fp} h k => by
    cases x with
    | inl xs => exact (slice E e).weak h k
    | inr y => exact h.1
section
variable {α : Type} {E : Rep α} {e e2 : TypeId} {w : World} {B : Nat} {v : Value} {fp : List Nat}
theorem orv_start {hs : List Hdr} (h : SlOwn hdr e2 w hs v fp) : SlOwn (orv E e) e2 w (hs.map .inr) v fp := by
  obtain ⟨es, he, ho, rfl⟩ := h
  refine ⟨es, ⟨by rw [List.length_map]; exact he.1, fun i x y hx hy => ?_⟩, by rw [List.length_map]; exact ho, rfl⟩
  rw [List.getElem?_map] at hx
  cases hh : hs[i]? with
  | none => rw [hh] at hx; cases hx
  | some h =>
    rw [hh] at hx
    injection hx with hx
    subst hx
    have := he.2 i h y hh hy
    exact ⟨this.1, this.2.2⟩
theorem orv_end {xs : List (List α)} (h : SlOwn (orv E e) e2 w (xs.map .inl) v fp) : SlOwn (slice E e) e2 w xs v fp := by
  obtain ⟨es, he, ho, rfl⟩ := h
  refine ⟨es, ⟨by rw [he.1, List.length_map], fun i x y hx hy => ?_⟩, by rw [List.length_map] at ho; exact ho, rfl⟩
  exact he.2 i (.inl x) y (by rw [List.getElem?_map, hx]; rfl) hy
/-- the headers of a slice of slices that is read -/
theorem hdrs {xs : List (List α)} {A : Option Addr} {n c : Nat} (h : SlAt (slice E e) w B xs A n c) : ∃ hs : List Hdr, SlAt hdr w B hs A n c ∧ ∀ (k : Nat) (x : List α), xs[k]? = some x → ∃ y, hs[k]? = some y ∧ SlAt E w B x y.1 y.2.1 y.2.2 := by
  have key : ∀ k : Nat, ∃ y : Hdr, ∀ x, xs[k]? = some x → ∃ b off, A = some ⟨b, off, none⟩ ∧ b < B ∧ SlAt E w B x y.1 y.2.1 y.2.2 ∧ w.cell? ⟨b, off + k, none⟩ = some (hval y) := fun k => by
    cases hx : xs[k]? with
    | none => exact ⟨(none, 0, 0), fun x h => by cases h⟩
    | some x =>
      obtain ⟨b, off, cs, hA, hb, ⟨A', n', c', rfl, ha⟩, hc⟩ := h.2.2.2.2 k x hx
      refine ⟨(A', n', c'), fun x' hx' => ?_⟩
      injection hx' with hx'
      subst hx'
      refine ⟨b, off, hA, hb, ha, ?_⟩
      have := hc 0 _ rfl
      rw [show (slice E e).size = 1 from rfl, Nat.mul_one, Nat.add_zero] at this
      exact this
  obtain ⟨f, hf⟩ := Classical.axiomOfChoice key
  refine ⟨(List.range n).map f, ⟨by simp, h.2.1, h.2.2.1, h.2.2.2.1, fun i y hy => ?_⟩, fun k x hx => ?_⟩
  · rw [List.getElem?_map] at hy
    have hi : i < n := by
      rcases Nat.lt_or_ge i n with h1 | h1
      · exact h1
      · rw [List.getElem?_eq_none (by simpa using h1)] at hy; cases hy
    rw [List.getElem?_range hi] at hy
    injection hy with hy
    subst hy
    have hl : i < xs.length := by rw [h.1]; exact hi
    obtain ⟨b, off, hA, hb, ha, hc⟩ := hf i _ (List.getElem?_eq_getElem hl)
    refine ⟨b, off, [hval (f i)], hA, hb, ⟨rfl, trivial⟩, fun j u hj => ?_⟩
    cases j with
    | zero =>
      injection hj with hj
      subst hj
      rw [show hdr.size = 1 from rfl, Nat.mul_one, Nat.add_zero]
      exact hc
    | succ j => simp at hj
  · have hk : k < n := by rw [← h.1]; exact (List.getElem?_eq_some_iff.1 hx).1
    obtain ⟨b, off, hA, hb, ha, hc⟩ := hf k x hx
    exact ⟨f k, by rw [List.getElem?_map, List.getElem?_range hk]; rfl, ha⟩
/-- row k, a header alone, becomes a row of the call's own -/
theorem SepF.rowIn {F : List Nat} {w0 wr : World} {ts : List Thing} {ys : List (List α ⊕ Hdr)} {g n c k : Nat} {z : List α ⊕ Hdr} {xs : List α} {A : Option Addr} {m d : Nat} {fx : List Nat} (h : SepF F w0 wr (tsl E e xs (.slice A m d) fx :: tsl (orv E e) e2 ys (.slice (some ⟨g, 0, none⟩) n c) fp :: ts)) (hk : ys[k]? = some z) :
    ∃ fp', SepF F w0 (wr.setCell ⟨g, k, none⟩ (.slice A m d)) (tsl (orv E e) e2 (ys.set k (.inl xs)) (.slice (some ⟨g, 0, none⟩) n c) fp' :: ts) := by
  have ho : SlOwn (orv E e) e2 wr ys (.slice (some ⟨g, 0, none⟩) n c) fp := h.at_ 1 rfl
  have hx : SlOwn E e wr xs (.slice A m d) fx := h.at_ 0 rfl
  have hnx : fx.Nodup := h.ndat (i := 0) rfl
  have hap : ∀ b, b ∈ fx → b ∉ fp := h.apart (i := 0) (j := 1) rfl rfl (by decide)
  have hgf : g ∈ fp := ho.mem_block
  have hown : (orv E e).own wr (.inl xs) [.slice A m d] fx := ⟨_, rfl, hx⟩
  have hkl : k < ys.length := (List.getElem?_eq_some_iff.1 hk).1
  obtain ⟨fp', h1, h2, h3⟩ := ho.set (i := k) hkl hown (h.ndat (i := 1) rfl) hnx (fun b hb hm => hap b hb hm)
  rw [show (orv E e).size = 1 from rfl, Nat.mul_one] at h1
  refine ⟨fp', ?_⟩
  have h4 := h.upd2 (i := 1) (j := 0) (by decide) rfl rfl (W := wr.setCell ⟨g, k, none⟩ (.slice A m d)) (t' := tsl (orv E e) e2 (ys.set k (.inl xs)) (.slice (some ⟨g, 0, none⟩) n c) fp') ((Chg.refl _ _).setCell (List.mem_append_left _ hgf) _) h1 h2 (fun b hb => by
    rcases h3 b hb with h | h
    · exact .inl h
    · exact .inr (.inl h))
  exact h4.tail
end
end Mm
end Go.Proofs.Ytaepohocabealaa

/-
  Contracts: slices.Clone, for the chapters' structs that lead nowhere and for slices of slices (their headers). No conditions.
-/
namespace Go.Proofs.Ytaepohocabealaa
open Go.RowKit
def Mm.encH (h : Mm.Hdr) : List Value := [Mm.hval h]
theorem Try.info_clStrs : (Try.prog.info? 40).map (fun i => (i.zero, i.size, i.bytes)) = some (some (.slice none 0 0), 1, 24) := by kernel_rfl
set_option maxRecDepth 100000 in
set_option maxHeartbeats 1000000 in
theorem clStrs_c (l : List Mm.Hdr) (A : Option Addr) (n c : Nat) (w : World) (B : Nat) (hl : Mm.SlAt Mm.hdr w B l A n c) (hn : n ≤ 1048576) :
    Calls Try.prog 98 #[.slice A n c] w (Mm.NewSl Mm.hdr 40 w l) := by
  have hlen := Lib.hid hl.1
  have hcap := hl.2.1
  have hq : ∀ (w : World) (a : Option Addr) (n c n' c' : Nat), (binOp .eql 26 (.slice a n c) (.slice none n' c')).run Try.prog w = .ok (.bool a.isNone) w := fun w a n c n' c' => Lib.run_eql_slice_nil w _ _ a n c n' c' Try.underlying26
  cases A with
  | none =>
    have hc : c = 0 := hl.2.2.2.1 rfl
    have hl0 : l = [] := List.length_eq_zero_iff.1 (by rw [hlen.out]; omega)
    subst hl0
    clear hl
    go_enter Try.func98, Try.ntmps98
    go_wp2
    go_ret
    exact (Mm.Acc.nil (Below.refl _ _)).newsl
  | some a =>
    have HC := Lib.hid (Mm.flat_cells' (E := Mm.hdr) (enc := Mm.encH) (fun x cs h => (Mm.flat_hdr).at_ h) hl)
    have HLN := Lib.hid (Mm.flat_len (E := Mm.hdr) (enc := Mm.encH) (fun x cs h => (Mm.flat_hdr).at_ h) hl)
    have HOK : Hid (∀ (w' : World) x, x ∈ l → (Mm.hdr).own w' x ((Mm.encH) x) []) := fun w' x hx => by
      obtain ⟨i, hi, rfl⟩ := List.mem_iff_getElem.1 hx
      obtain ⟨y, b, off, cs, hy, _, _, ha, _⟩ := hl.get (k := i) (by rw [← hlen.out]; exact hi)
      rw [List.getElem?_eq_getElem hi] at hy
      injection hy with hy
      subst hy
      exact (Mm.flat_hdr).own ha w'
    have H1 : Hid (∀ u : Value, u ∈ l.flatMap Mm.encH → u.oneCell' = true) := fun u hu => by
      obtain ⟨x, hx, hu⟩ := List.mem_flatMap.1 hu
      exact (Mm.hdr).one (HOK.out w x hx) u hu
    clear hl
    obtain ⟨i0, hi, hz0, hz1, hz2⟩ := info_parts Try.info_clStrs
    go_enter Try.func98, Try.ntmps98
    go_wp2_with (at_builtin; refine wpList_append_own_at _ rfl _ _ 26 rfl w.heap.size 40 i0 (.slice none 0 0) 1 24 Try.underlying26 hi hz0 hz1 hz2 rfl (by decide) _ _ _ rfl (World.ownsRow_made w #[] 0 (Nat.le_refl _) (Nat.zero_le _) rfl) a n c (l.flatMap Mm.encH) rfl HLN.out (fun j u hj => Lib.cell?_alloc_some _ (HC.out j u hj)) H1.out (by unfold maxLen; omega) (by omega) (by simp) ?_; intro v' w1 hown hgrow hnil hat)
    have HA := Lib.hid (Mm.clone_post (E := Mm.hdr) (e := 40) (Nat.zero_add _) (List.nil_append _) hown hgrow (fun x hx => HOK.out _ x hx) hlen.out)
    clear hown hgrow hat hnil
    go_wp2
    go_ret
    exact HA.out.newsl
end Go.Proofs.Ytaepohocabealaa

/-
  Contracts: the program's copy of a teller (chapter 10). No conditions.
-/
namespace Go.Proofs.Ytaepohocabealaa
open Go.RowKit
attribute [local go_sem] und_cell cha_cell World.cell?_alloc_some
theorem Try.info_clNote : (Try.prog.info? 94).map (fun i => (i.zero, i.size, i.bytes)) = some (some (.agg #[.bool false, .int .i64 0, .int .i64 0, .string ⟨#[]⟩]), 4, 40) := by kernel_rfl
set_option maxRecDepth 100000 in
set_option maxHeartbeats 1000000 in
theorem clNote_c (l : List Note) (A : Option Addr) (n c : Nat) (w : World) (B : Nat) (hl : Mm.SlAt rNote w B l A n c) (hn : n ≤ 1048576) :
    Calls Try.prog 101 #[.slice A n c] w (Mm.NewSl rNote 94 w l) := by
  have hlen := Lib.hid hl.1
  have hcap := hl.2.1
  have hq : ∀ (w : World) (a : Option Addr) (n c n' c' : Nat), (binOp .eql 28 (.slice a n c) (.slice none n' c')).run Try.prog w = .ok (.bool a.isNone) w := fun w a n c n' c' => Lib.run_eql_slice_nil w _ _ a n c n' c' Try.underlying28
  cases A with
  | none =>
    have hc : c = 0 := hl.2.2.2.1 rfl
    have hl0 : l = [] := List.length_eq_zero_iff.1 (by rw [hlen.out]; omega)
    subst hl0
    clear hl
    go_enter Try.func101, Try.ntmps101
    go_wp2
    go_ret
    exact (Mm.Acc.nil (Below.refl _ _)).newsl
  | some a =>
    have HC := Lib.hid (Mm.flat_cells' (E := rNote) (enc := Mm.encNote) (fun x cs h => (Mm.flatA_note).at_ h) hl)
    have HLN := Lib.hid (Mm.flat_len (E := rNote) (enc := Mm.encNote) (fun x cs h => (Mm.flatA_note).at_ h) hl)
    have HOK : Hid (∀ (w' : World) x, x ∈ l → (rNote).own w' x ((Mm.encNote) x) []) := fun w' x hx => by
      obtain ⟨i, hi, rfl⟩ := List.mem_iff_getElem.1 hx
      obtain ⟨y, b, off, cs, hy, _, _, ha, _⟩ := hl.get (k := i) (by rw [← hlen.out]; exact hi)
      rw [List.getElem?_eq_getElem hi] at hy
      injection hy with hy
      subst hy
      exact (Mm.flatA_note).own ha w'
    have H1 : Hid (∀ u : Value, u ∈ l.flatMap Mm.encNote → u.oneCell' = true) := fun u hu => by
      obtain ⟨x, hx, hu⟩ := List.mem_flatMap.1 hu
      exact (rNote).one (HOK.out w x hx) u hu
    clear hl
    obtain ⟨i0, hi, hz0, hz1, hz2⟩ := info_parts Try.info_clNote
    go_enter Try.func101, Try.ntmps101
    go_wp2_with (at_builtin; refine wpList_append_own_at _ rfl _ _ 28 rfl w.heap.size 94 i0 (.agg #[.bool false, .int .i64 0, .int .i64 0, .string ⟨#[]⟩]) 4 40 Try.underlying28 hi hz0 hz1 hz2 rfl (by decide) _ _ _ rfl (World.ownsRow_made w #[] 0 (Nat.le_refl _) (Nat.zero_le _) rfl) a n c (l.flatMap Mm.encNote) rfl HLN.out (fun j u hj => Lib.cell?_alloc_some _ (HC.out j u hj)) H1.out (by unfold maxLen; omega) (by omega) (by simp) ?_; intro v' w1 hown hgrow hnil hat)
    have HA := Lib.hid (Mm.clone_post (E := rNote) (e := 94) (Nat.zero_add _) (List.nil_append _) hown hgrow (fun x hx => HOK.out _ x hx) hlen.out)
    clear hown hgrow hat hnil
    go_wp2
    go_ret
    exact HA.out.newsl
theorem Try.info_clTold : (Try.prog.info? 52).map (fun i => (i.zero, i.size, i.bytes)) = some (some (.agg #[.int .i64 0, .int .i64 0, .string ⟨#[]⟩]), 3, 32) := by kernel_rfl
set_option maxRecDepth 100000 in
set_option maxHeartbeats 1000000 in
theorem clTold_c (l : List Told) (A : Option Addr) (n c : Nat) (w : World) (B : Nat) (hl : Mm.SlAt rTold w B l A n c) (hn : n ≤ 1048576) :
    Calls Try.prog 102 #[.slice A n c] w (Mm.NewSl rTold 52 w l) := by
  have hlen := Lib.hid hl.1
  have hcap := hl.2.1
  have hq : ∀ (w : World) (a : Option Addr) (n c n' c' : Nat), (binOp .eql 29 (.slice a n c) (.slice none n' c')).run Try.prog w = .ok (.bool a.isNone) w := fun w a n c n' c' => Lib.run_eql_slice_nil w _ _ a n c n' c' Try.underlying29
  cases A with
  | none =>
    have hc : c = 0 := hl.2.2.2.1 rfl
    have hl0 : l = [] := List.length_eq_zero_iff.1 (by rw [hlen.out]; omega)
    subst hl0
    clear hl
    go_enter Try.func102, Try.ntmps102
    go_wp2
    go_ret
    exact (Mm.Acc.nil (Below.refl _ _)).newsl
  | some a =>
    have HC := Lib.hid (Mm.flat_cells' (E := rTold) (enc := Mm.encTold) (fun x cs h => (Mm.flatA_told).at_ h) hl)
    have HLN := Lib.hid (Mm.flat_len (E := rTold) (enc := Mm.encTold) (fun x cs h => (Mm.flatA_told).at_ h) hl)
    have HOK : Hid (∀ (w' : World) x, x ∈ l → (rTold).own w' x ((Mm.encTold) x) []) := fun w' x hx => by
      obtain ⟨i, hi, rfl⟩ := List.mem_iff_getElem.1 hx
      obtain ⟨y, b, off, cs, hy, _, _, ha, _⟩ := hl.get (k := i) (by rw [← hlen.out]; exact hi)
      rw [List.getElem?_eq_getElem hi] at hy
      injection hy with hy
      subst hy
      exact (Mm.flatA_told).own ha w'
    have H1 : Hid (∀ u : Value, u ∈ l.flatMap Mm.encTold → u.oneCell' = true) := fun u hu => by
      obtain ⟨x, hx, hu⟩ := List.mem_flatMap.1 hu
      exact (rTold).one (HOK.out w x hx) u hu
    clear hl
    obtain ⟨i0, hi, hz0, hz1, hz2⟩ := info_parts Try.info_clTold
    go_enter Try.func102, Try.ntmps102
    go_wp2_with (at_builtin; refine wpList_append_own_at _ rfl _ _ 29 rfl w.heap.size 52 i0 (.agg #[.int .i64 0, .int .i64 0, .string ⟨#[]⟩]) 3 32 Try.underlying29 hi hz0 hz1 hz2 rfl (by decide) _ _ _ rfl (World.ownsRow_made w #[] 0 (Nat.le_refl _) (Nat.zero_le _) rfl) a n c (l.flatMap Mm.encTold) rfl HLN.out (fun j u hj => Lib.cell?_alloc_some _ (HC.out j u hj)) H1.out (by unfold maxLen; omega) (by omega) (by simp) ?_; intro v' w1 hown hgrow hnil hat)
    have HA := Lib.hid (Mm.clone_post (E := rTold) (e := 52) (Nat.zero_add _) (List.nil_append _) hown hgrow (fun x hx => HOK.out _ x hx) hlen.out)
    clear hown hgrow hat hnil
    go_wp2
    go_ret
    exact HA.out.newsl
set_option maxRecDepth 100000 in
set_option maxHeartbeats 2000000 in
theorem cloneTell_c (t : Tell) (cs : List Value) (w : World) (B : Nat) (hh : rTell.at_ w B t cs) (hB : B ≤ w.heap.size) (hz : Pl.TSz t) (h1 : 1 ≤ t.Texts.length) :
    Calls Try.prog 54 #[.agg cs.toArray] w (Mm.NewAg rTell w t) := by
  obtain ⟨A0, n0, c0, A1, n1, c1, A2, n2, c2, A3, n3, c3, A4, n4, c4, rfl, r0, r1, r2, r3, r4⟩ := rTell_at hh
  have z0 := hz.n4
  have z1 := hz.heard
  have z2 := hz.line
  have z3 := hz.log
  have z4 := hz.next
  have z5 := Lib.hid hz.texts
  rw [r0.1] at z0 h1
  rw [r1.1] at z1
  rw [r2.1] at z2
  rw [r3.1] at z3
  rw [r4.1] at z4
  obtain ⟨hs, rh, hin⟩ := Mm.hdrs r0
  have G0 := Lib.hid r0.1
  have GH := Lib.hid rh.1
  have HIN := Lib.hid hin
  have RH := Lib.hid rh
  have R1 := Lib.hid r1
  have R2 := Lib.hid r2
  have R3 := Lib.hid r3
  have R4 := Lib.hid r4
  have KS0 := Lib.hid (((Mm.SepF.start w).alloc' rfl 31 [.slice A0 n0 c0, .slice A1 n1 c1, .slice A2 n2 c2, .slice A3 n3 c3, .slice A4 n4 c4]).alloc' (Mm.sz1 _ _) 31 zTell)
  clear hh hz r0 r1 r2 r3 r4 rh hin
  go_enter Try.func54, Try.ntmps54
  go_upto_region 1 with fail
  obtain ⟨ga, hga⟩ : ∃ ga, w.heap.size = ga := ⟨_, rfl⟩
  obtain ⟨gr, hgr⟩ : ∃ gr, ga + 1 = gr := ⟨_, rfl⟩
  obtain ⟨W0, hW0⟩ : ∃ W0, (w.alloc (.cells #[.slice A0 n0 c0, .slice A1 n1 c1, .slice A2 n2 c2, .slice A3 n3 c3, .slice A4 n4 c4] 31)).alloc (.cells #[.slice none 0 0, .slice none 0 0, .slice none 0 0, .slice none 0 0, .slice none 0 0] 31) = W0 := ⟨_, rfl⟩
  replace KS0 := Lib.hid (KS0.out.atW hW0)
  rw [hga] at KS0
  rw [hgr] at KS0
  rw [hW0, hga, hgr]
  have HGA := Lib.hid hga
  have HBW := Lib.hid (show B ≤ ga from by omega)
  clear hW0 hgr hga hB
  have b0 := KS0.out.cell (k := 0) 1 rfl rfl
  go_wp2_with (go_at_call 98; refine (clStrs_c hs _ _ _ W0 B (RH.out.keep fun b hb => KS0.out.bel0.block b (by have := HBW.out; have := HGA.out; omega)) (by omega)).mono ?_; rintro e w1 ⟨A5, n5, c5, f5, rfl, ho, hnd, hnew, hb5⟩; (have KS1 := Lib.hid (KS0.out.add hb5 (t := Mm.tsl (Mm.orv Mm.str 9) 40 (hs.map .inr) (.slice A5 n5 c5) f5) (Mm.orv_start ho) hnd hnew)); clear ho hnd hnew hb5)
  obtain ⟨g5, rfl, -, hn5⟩ := Mm.sl_addr (KS1.out.sl 0 rfl) (by rw [List.length_map, GH.out]; omega)
  rw [List.length_map, GH.out] at hn5
  subst hn5
  have hcap : n5 ≤ c5 ∧ c5 ≤ maxLen := by obtain ⟨A', n', c', hv, h1, h2, h3, _⟩ := (KS1.out.sl 0 rfl).form; injection hv with _ h4 h5; omega
  unfold maxLen at hcap
  clear b0
  go_loopg [11] n5 (fun g i wr => ∃ (k : Nat) (fp : List Nat), n5 - k ≤ g ∧ k ≤ n5 ∧ i = .int .i64 k ∧ Hid (Mm.SepF [] w wr [Mm.tsl (Mm.orv Mm.str 9) 40 ((t.Texts.take k).map .inl ++ (hs.drop k).map .inr) (.slice (some ⟨g5, 0, none⟩) n5 c5) fp, Mm.tblk gr 31 zTell, Mm.tblk ga 31 [.slice A0 n5 c0, .slice A1 n1 c1, .slice A2 n2 c2, .slice A3 n3 c3, .slice A4 n4 c4]]))
  case atStart => exact ⟨0, f5, Nat.le_refl _, Nat.zero_le _, rfl, Lib.hid (by rw [List.take_zero, List.drop_zero]; exact KS1.out)⟩
  case round =>
    clear KS1
    obtain ⟨k, fp, hgk, hk, rfl, HS⟩ := hrel
    obtain ⟨Wr, rfl⟩ : ∃ Wr : World, Wr = wr := ⟨_, rfl⟩
    by_cases hlt : k < n5
    · obtain ⟨l, hx⟩ : ∃ l, t.Texts[k]? = some l := ⟨_, List.getElem?_eq_getElem (show k < t.Texts.length by rw [G0.out]; exact hlt)⟩
      obtain ⟨⟨A6, n6, c6⟩, hy, hl⟩ := HIN.out k l hx
      dsimp only at hl
      have hn20 := z5.out k l hx
      rw [hl.1] at hn20
      have hlen : ((t.Texts.take k).map (Sum.inl (β := Mm.Hdr))).length = k := by rw [List.length_map, List.length_take, G0.out]; omega
      have hz : ((t.Texts.take k).map .inl ++ (hs.drop k).map .inr : List (List ByteArray ⊕ Mm.Hdr))[k]? = some (.inr (A6, n6, c6)) := by
        rw [List.getElem?_append_right (by rw [hlen]; exact Nat.le_refl _), hlen, Nat.sub_self, List.getElem?_map, List.getElem?_drop, Nat.add_zero, hy]; rfl
      have hset : ((t.Texts.take k).map .inl ++ (hs.drop k).map .inr : List (List ByteArray ⊕ Mm.Hdr)).set k (.inl l) = (t.Texts.take (k + 1)).map .inl ++ (hs.drop (k + 1)).map .inr := by
        have hd : hs.drop k = (A6, n6, c6) :: hs.drop (k + 1) := by
          obtain ⟨hi, he⟩ := List.getElem?_eq_some_iff.1 hy
          rw [List.drop_eq_getElem_cons hi, he]
        rw [List.set_append_right _ _ (by rw [hlen]; exact Nat.le_refl _), hlen, Nat.sub_self, hd, List.map_cons, List.set_cons_zero, Mm.take_succ_some hx, List.map_append, List.append_assoc]
        rfl
      have HZ := Lib.hid hz
      have HSET := Lib.hid hset
      have HL := Lib.hid (hl.keep (w' := Wr) fun b hb => HS.out.bel0.block b (by have := HBW.out; have := HGA.out; omega))
      have e0 : Wr.cell? ⟨g5, k, none⟩ = some (.slice A6 n6 c6) := by
        have h1 : Mm.SlOwn (Mm.orv Mm.str 9) 40 Wr _ _ fp := HS.out.at_ 0 rfl
        obtain ⟨cs, fx, ho, -, -, hc, -⟩ := h1.inner (HS.out.ndat (i := 0) rfl) HZ.out
        have h2 := hc 0 (.slice A6 n6 c6) (by rw [show cs = [Mm.hval (A6, n6, c6)] from ho.1]; rfl)
        rw [show (Mm.orv Mm.str 9).size = 1 from rfl, Nat.mul_one, Nat.add_zero] at h2
        exact h2
      have z0' := (show Mm.SlOwn (Mm.orv Mm.str 9) 40 Wr _ _ fp from HS.out.at_ 0 rfl).frozen k
      have f1 : ((k : Nat) : Int) < ((n5 : Nat) : Int) := by omega
      have f2 : (0 : Int) ≤ (k : Nat) := by omega
      have f3 : ((k : Nat) : Int).toNat = k := by omega
      clear hx hy hl hz hset hlen
      go_wp2_with (go_at_call 99; refine (clStr_c l _ _ _ Wr B HL.out (by omega)).mono ?_; rintro e w5 ⟨A7, n7, c7, f7, rfl, ho, hnd, hnew, hb5⟩; (have HS1 := Lib.hid (HS.out.add hb5 (t := Mm.tsl Mm.str 9 l (.slice A7 n7 c7) f7) ho hnd hnew)); clear ho hnd hnew; obtain ⟨fp', hs2⟩ := HS1.out.rowIn HZ.out; rw [HSET.out] at hs2; (have HS2 := Lib.hid hs2); clear hs2; replace e0 := below_some hb5 e0; (have z0' := (show Mm.SlOwn (Mm.orv Mm.str 9) 40 w5 _ _ fp from HS1.out.at_ 1 rfl).frozen k); clear hb5)
      go_roundg (n5 - (k + 1))
      case measure => omega
      case rel => exact ⟨k + 1, fp', Nat.le_refl _, by omega, by go_num, HS2.out⟩
    · obtain rfl : n5 = k := by omega
      have hE : (t.Texts.take n5).map .inl ++ (hs.drop n5).map .inr = (t.Texts.map .inl : List (List ByteArray ⊕ Mm.Hdr)) := by
        rw [List.take_of_length_le (by rw [G0.out]; exact Nat.le_refl _), List.drop_eq_nil_of_le (by rw [GH.out]; exact Nat.le_refl _)]; simp
      rw [hE] at HS
      have HS1 : Hid (Mm.SepF [] w Wr [Mm.tsl strs 40 t.Texts (.slice (some ⟨g5, 0, none⟩) n5 c5) fp, Mm.tblk gr 31 zTell, Mm.tblk ga 31 [.slice A0 n5 c0, .slice A1 n1 c1, .slice A2 n2 c2, .slice A3 n3 c3, .slice A4 n4 c4]]) := Lib.hid (HS.out.conv (List.Perm.refl _) (List.forall_mem_cons.2 ⟨Mm.orv_end (HS.out.at_ 0 rfl), fun u hu => HS.out.hold u (List.mem_cons_of_mem _ hu)⟩))
      have hBX : B ≤ Wr.heap.size := by have := HBW.out; have := HGA.out; have := HS1.out.chg.size; omega
      have S1 := Lib.hid (R1.out.keep (w' := Wr) fun b hb => HS1.out.bel0.block b (by have := HBW.out; have := HGA.out; omega))
      have S2 := Lib.hid (R2.out.keep (w' := Wr) fun b hb => HS1.out.bel0.block b (by have := HBW.out; have := HGA.out; omega))
      have S3 := Lib.hid (R3.out.keep (w' := Wr) fun b hb => HS1.out.bel0.block b (by have := HBW.out; have := HGA.out; omega))
      have S4 := Lib.hid (R4.out.keep (w' := Wr) fun b hb => HS1.out.bel0.block b (by have := HBW.out; have := HGA.out; omega))
      have b1 := HS1.out.cell (k := 1) 2 rfl rfl
      have b2 := HS1.out.cell (k := 2) 2 rfl rfl
      have b3 := HS1.out.cell (k := 3) 2 rfl rfl
      have b4 := HS1.out.cell (k := 4) 2 rfl rfl
      clear hE
      go_wp2
      refine Mm.wp_region_give 14 (fun i => match i with | 3 => some (Mm.gSl Mm.int 3 t.Heard) | 6 => some (Mm.gSl rNote 94 t.Line) | 9 => some (Mm.gSl rTold 52 t.Log) | 12 => some (Mm.gSl Mm.int 3 t.Next) | _ => none) (fun _ => []) (fun _ => []) (F := []) (D := fun w' => ∃ x : Und Wr, w' = und Wr x) (fun X us h => Mm.sep_und h) (by kernel_rfl) (by kernel_rfl) (by kernel_rfl) (Mm.SepF.startDrew _) ?_
      repeat (refine Mm.give_det (by rfl) (by rfl) (by rfl) (fun K hK => ?_); go_big_quiet_op; refine hK _ ?_; clear hK K)
      refine Mm.give_op0 25 (by rfl) rfl (by rfl) (by rfl) (by rfl) (by rfl) Mm.gSl_in (fun others X hX => ?_) ?_
      · go_wp2_with (go_at_call 100; refine (clInt_c t.Heard _ _ _ X B (S1.out.keep (fun b hb => hX.bel0.block b (by omega))) (by omega)).mono ?_; rintro e w5 ⟨A5, n5, c5, f5, rfl, ho, hnd, hnew, hb5⟩)
        exact Mm.gvq_sl hX hb5 ho hnd hnew rfl rfl
      rintro v ds ⟨a1, q1, k1, f1, rfl, rfl, e1⟩
      simp only [Act.put, List.setIfInBounds_toArray, List.set_cons_succ, List.set_cons_zero]
      repeat (refine Mm.give_det (by rfl) (by rfl) (by rfl) (fun K hK => ?_); go_big_quiet_op; refine hK _ ?_; clear hK K)
      refine Mm.give_op0 28 (by rfl) rfl (by rfl) (by rfl) (by rfl) (by rfl) Mm.gSl_in (fun others X hX => ?_) ?_
      · go_wp2_with (go_at_call 101; refine (clNote_c t.Line _ _ _ X B (S2.out.keep (fun b hb => hX.bel0.block b (by omega))) (by omega)).mono ?_; rintro e w5 ⟨A5, n5, c5, f5, rfl, ho, hnd, hnew, hb5⟩)
        exact Mm.gvq_sl hX hb5 ho hnd hnew rfl rfl
      rintro v ds ⟨a2, q2, k2, f2, rfl, rfl, e2⟩
      simp only [Act.put, List.setIfInBounds_toArray, List.set_cons_succ, List.set_cons_zero]
      repeat (refine Mm.give_det (by rfl) (by rfl) (by rfl) (fun K hK => ?_); go_big_quiet_op; refine hK _ ?_; clear hK K)
      refine Mm.give_op0 31 (by rfl) rfl (by rfl) (by rfl) (by rfl) (by rfl) Mm.gSl_in (fun others X hX => ?_) ?_
      · go_wp2_with (go_at_call 102; refine (clTold_c t.Log _ _ _ X B (S3.out.keep (fun b hb => hX.bel0.block b (by omega))) (by omega)).mono ?_; rintro e w5 ⟨A5, n5, c5, f5, rfl, ho, hnd, hnew, hb5⟩)
        exact Mm.gvq_sl hX hb5 ho hnd hnew rfl rfl
      rintro v ds ⟨a3, q3, k3, f3, rfl, rfl, e3⟩
      simp only [Act.put, List.setIfInBounds_toArray, List.set_cons_succ, List.set_cons_zero]
      repeat (refine Mm.give_det (by rfl) (by rfl) (by rfl) (fun K hK => ?_); go_big_quiet_op; refine hK _ ?_; clear hK K)
      refine Mm.give_op0 34 (by rfl) rfl (by rfl) (by rfl) (by rfl) (by rfl) Mm.gSl_in (fun others X hX => ?_) ?_
      · go_wp2_with (go_at_call 100; refine (clInt_c t.Next _ _ _ X B (S4.out.keep (fun b hb => hX.bel0.block b (by omega))) (by omega)).mono ?_; rintro e w5 ⟨A5, n5, c5, f5, rfl, ho, hnd, hnew, hb5⟩)
        exact Mm.gvq_sl hX hb5 ho hnd hnew rfl rfl
      rintro v ds ⟨a4, q4, k4, f4, rfl, rfl, e4⟩
      simp only [Act.put, List.setIfInBounds_toArray, List.set_cons_succ, List.set_cons_zero]
      repeat (refine Mm.give_det (by rfl) (by rfl) (by rfl) (fun K hK => ?_); go_big_quiet_op; refine hK _ ?_; clear hK K)
      refine Mm.give_nil ?_
      rintro X hX
      have HX := Lib.hid (HS1.out.join (us := [Mm.tsl Mm.int 3 t.Heard (.slice a1 q1 k1) f1, Mm.tsl rNote 94 t.Line (.slice a2 q2 k2) f2, Mm.tsl rTold 52 t.Log (.slice a3 q3 k3) f3, Mm.tsl Mm.int 3 t.Next (.slice a4 q4 k4) f4]) hX)
      clear hX b1 b2 b3 b4
      have HSR := HX
      have r0 := HX.out.cell (k := 0) 5 rfl rfl
      have r1 := HX.out.cell (k := 1) 5 rfl rfl
      have r2 := HX.out.cell (k := 2) 5 rfl rfl
      have r3 := HX.out.cell (k := 3) 5 rfl rfl
      have r4 := HX.out.cell (k := 4) 5 rfl rfl
      have z0 := HX.out.frz (k := 0) 5 rfl
      have z1 := HX.out.frz (k := 1) 5 rfl
      have z2 := HX.out.frz (k := 2) 5 rfl
      have z3 := HX.out.frz (k := 3) 5 rfl
      have z4 := HX.out.frz (k := 4) 5 rfl
      have HSF := Lib.hid (((((HX.out.setBlk (k := 0) 5 rfl (.slice (some ⟨g5, 0, none⟩) n5 c5)).setBlk (k := 1) 5 rfl (.slice a1 q1 k1)).setBlk (k := 2) 5 rfl (.slice a2 q2 k2)).setBlk (k := 3) 5 rfl (.slice a3 q3 k3)).setBlk (k := 4) 5 rfl (.slice a4 q4 k4))
      have u0 := HSF.out.cell (k := 0) 5 rfl rfl
      have u1 := HSF.out.cell (k := 1) 5 rfl rfl
      have u2 := HSF.out.cell (k := 2) 5 rfl rfl
      have u3 := HSF.out.cell (k := 3) 5 rfl rfl
      have u4 := HSF.out.cell (k := 4) 5 rfl rfl
      go_wp2
      exact bodyPost_ret (v := .agg #[.slice (some ⟨g5, 0, none⟩) n5 c5, .slice a1 q1 k1, .slice a2 q2 k2, .slice a3 q3 k3, .slice a4 q4 k4]) (by simp [results, Try.results54, go_sem, u0, u1, u2, u3, u4]) rfl (tell_ret (shutv_Tell (x := t) (HSF.out.sel [4, 0, 1, 2, 3] (by decide) rfl)))
end Go.Proofs.Ytaepohocabealaa

/-
  Contracts: StepTell (chapter 10). No conditions.
-/
namespace Go.Proofs.Ytaepohocabealaa
open Go.RowKit
attribute [local go_sem] und_cell cha_cell World.cell?_alloc_some
def Pl.stepTell (t : Tell) (s : TellStep) : Tell × Bool := if Pl.goodTell t = true ∧ (Pl.tstep t s).2 = true then ((Pl.tstep t s).1, true) else (Pl.zTe, false)
theorem Pl.good_n {t : Tell} (h : Pl.goodTell t = true) : 1 ≤ t.Texts.length := by
  unfold Pl.goodTell at h
  simp only [Bool.and_eq_true] at h
  exact (Pl.good_pre h.1.1.1).1.1
theorem zTe_ret2 {w w' : World} (h : Below w.heap.size w w') : Mm.Ret2 rTell w Pl.zTe false (.returned (.tuple #[.agg zTell.toArray, .bool false])) w' :=
  ⟨zTell, [], rfl, zTe_own, List.nodup_nil, (fun b hb => by cases hb), h⟩
set_option maxRecDepth 100000 in
set_option maxHeartbeats 2000000 in
theorem implStepTell_c (t : Tell) (cs : List Value) (s : TellStep) (cs2 : List Value) (w : World) (B : Nat) (ht : rTell.at_ w B t cs) (hs : rTellStep.at_ w B s cs2) (hB : B ≤ w.heap.size) :
    Calls Try.prog 18 #[.agg cs.toArray, .agg cs2.toArray] w (Mm.Ret2 rTell w (Pl.stepTell t s).1 (Pl.stepTell t s).2) := by
  obtain ⟨A0, n0, c0, A1, n1, c1, A2, n2, c2, A3, n3, c3, A4, n4, c4, rfl, -⟩ := rTell_at ht
  obtain ⟨rfl, hmi⟩ := rTellStep_at hs
  have HMI := Lib.hid hmi
  have HRT := Lib.hid ht
  clear ht hs hmi
  go_enter Try.func18, Try.ntmps18
  go_upto_region 1 with fail
  obtain ⟨ga, hga⟩ : ∃ ga, w.heap.size = ga := ⟨_, rfl⟩
  obtain ⟨gs, hgs⟩ : ∃ gs, ga + 1 = gs := ⟨_, rfl⟩
  obtain ⟨gr, hgr⟩ : ∃ gr, gs + 1 = gr := ⟨_, rfl⟩
  obtain ⟨W0, hW0⟩ : ∃ W0, ((w.alloc (.cells #[.slice A0 n0 c0, .slice A1 n1 c1, .slice A2 n2 c2, .slice A3 n3 c3, .slice A4 n4 c4] 31)).alloc (.cells #[.int .i64 s.Kind, .int .i64 s.K, .string s.Text] 46)).alloc (.cells #[.slice none 0 0, .slice none 0 0, .slice none 0 0, .slice none 0 0, .slice none 0 0] 31) = W0 := ⟨_, rfl⟩
  have HS := Lib.hid (((((Mm.SepF.start w).alloc' hga 31 [.slice A0 n0 c0, .slice A1 n1 c1, .slice A2 n2 c2, .slice A3 n3 c3, .slice A4 n4 c4]).alloc' (g := gs) (by rw [Mm.sz1, hga, hgs]) 46 [.int .i64 s.Kind, .int .i64 s.K, .string s.Text]).alloc' (g := gr) (by rw [Mm.sz2, hga]; omega) 31 zTell).atW hW0)
  rw [hW0, hga, hgs, hgr]
  have HGA := Lib.hid hga
  clear hW0 hga hgs hgr
  have HRT0 := Lib.hid (rTell.keep HRT.out (w' := W0) fun b hb => HS.out.bel0.block b (by omega))
  have HBW := Lib.hid (Nat.le_trans hB HS.out.chg.size)
  have HSR := HS
  have b0 := HSR.out.cell (k := 0) 2 rfl rfl
  have b1 := HSR.out.cell (k := 1) 2 rfl rfl
  have b2 := HSR.out.cell (k := 2) 2 rfl rfl
  have b3 := HSR.out.cell (k := 3) 2 rfl rfl
  have b4 := HSR.out.cell (k := 4) 2 rfl rfl
  have r0 := HSR.out.cell (k := 0) 0 rfl rfl
  have r1 := HSR.out.cell (k := 1) 0 rfl rfl
  have r2 := HSR.out.cell (k := 2) 0 rfl rfl
  have r3 := HSR.out.cell (k := 3) 0 rfl rfl
  have r4 := HSR.out.cell (k := 4) 0 rfl rfl
  have z0 := HSR.out.frz (k := 0) 0 rfl
  have z1 := HSR.out.frz (k := 1) 0 rfl
  have z2 := HSR.out.frz (k := 2) 0 rfl
  have z3 := HSR.out.frz (k := 3) 0 rfl
  have z4 := HSR.out.frz (k := 4) 0 rfl
  obtain ⟨gd, hgd⟩ : ∃ gd, Pl.goodTell t = gd := ⟨_, rfl⟩
  have HGD := Lib.hid hgd
  clear hgd
  have CI := isTell_c t _ W0 B HRT0.out HBW.out
  rw [HGD.out] at CI
  cases gd with
  | false =>
    have HF : Hid (Pl.stepTell t s = (Pl.zTe, false)) := if_neg (fun h => by rw [HGD.out] at h; cases h.1)
    go_wp2_with (go_at_call 53; refine CI.mono ?_; rintro e w1 ⟨rfl, hb1⟩; (have HSR := Lib.hid (HS.out.step hb1)); (clear b0 b1 b2 b3 b4 r0 r1 r2 r3 r4 z0 z1 z2 z3 z4); (have r0 := HSR.out.cell (k := 0) 0 rfl rfl); (have r1 := HSR.out.cell (k := 1) 0 rfl rfl); (have r2 := HSR.out.cell (k := 2) 0 rfl rfl); (have r3 := HSR.out.cell (k := 3) 0 rfl rfl); (have r4 := HSR.out.cell (k := 4) 0 rfl rfl); (have z0 := HSR.out.frz (k := 0) 0 rfl); (have z1 := HSR.out.frz (k := 1) 0 rfl); (have z2 := HSR.out.frz (k := 2) 0 rfl); (have z3 := HSR.out.frz (k := 3) 0 rfl); (have z4 := HSR.out.frz (k := 4) 0 rfl))
    rw [HF.out]
    have HSF := Lib.hid (((((HSR.out.setBlk (k := 0) 0 rfl (.slice none 0 0)).setBlk (k := 1) 0 rfl (.slice none 0 0)).setBlk (k := 2) 0 rfl (.slice none 0 0)).setBlk (k := 3) 0 rfl (.slice none 0 0)).setBlk (k := 4) 0 rfl (.slice none 0 0))
    have q0 := HSF.out.cell (k := 0) 0 rfl rfl
    have q1 := HSF.out.cell (k := 1) 0 rfl rfl
    have q2 := HSF.out.cell (k := 2) 0 rfl rfl
    have q3 := HSF.out.cell (k := 3) 0 rfl rfl
    have q4 := HSF.out.cell (k := 4) 0 rfl rfl
    exact bodyPost_ret (v := .tuple #[.agg zTell.toArray, .bool false]) (by simp [results, Try.results18, go_sem, zTell, q0, q1, q2, q3, q4]) rfl (zTe_ret2 HSF.out.bel0)
  | true =>
    have HWF := Lib.hid (Pl.good_wf HGD.out)
    have hn1 := Pl.good_n HGD.out
    obtain ⟨⟨t', is⟩, hr⟩ : ∃ r, Pl.tstep t s = r := ⟨_, rfl⟩
    have HR := Lib.hid hr
    clear hr
    have CS := fun (g : Nat) (fp : List Nat) (W : World) h1 h2 => step_c t s g fp W h1 h2 HMI.out.2 HWF.out
    rw [HR.out] at CS
    have HCS := Lib.hid CS
    clear CS
    cases is with
    | false =>
      have HF : Hid (Pl.stepTell t s = (Pl.zTe, false)) := if_neg (fun h => by rw [HR.out] at h; cases h.2)
      go_wp2_with (first
        | (go_at_call 53; refine CI.mono ?_; rintro e w1 ⟨rfl, hb1⟩; (have HS1 := Lib.hid (HS.out.step hb1)); (have HRT1 := Lib.hid (rTell.keep HRT0.out (w' := w1) fun b hb => hb1.block b (Nat.lt_of_lt_of_le hb HBW.out))); (have HBW1 := Lib.hid (Nat.le_trans HBW.out hb1.size)); (clear b0 b1 b2 b3 b4 r0 r1 r2 r3 r4 z0 z1 z2 z3 z4); clear hb1; (have b0 := HS1.out.cell (k := 0) 2 rfl rfl); (have b1 := HS1.out.cell (k := 1) 2 rfl rfl); (have b2 := HS1.out.cell (k := 2) 2 rfl rfl); (have b3 := HS1.out.cell (k := 3) 2 rfl rfl); (have b4 := HS1.out.cell (k := 4) 2 rfl rfl))
        | (go_at_call 54; refine (cloneTell_c t _ w1 B HRT1.out HBW1.out HWF.out.sz hn1).mono ?_; rintro e w2 ⟨cs5, fp5, rfl, ho, hnd, hnew, hb2⟩; obtain ⟨a0, k0, a1, k1, a2, k2, a3, k3, a4, k4, rfl⟩ := own_form ho; (have HS2 := Lib.hid (HS1.out.add hb2 (t := Mm.tow rTell t _ _) ho hnd hnew)); clear ho hnd hnew hb2 b0 b1 b2 b3 b4; (have HS3 := Lib.hid ((HS2.out.alloc' rfl 31 [.slice a0 t.Texts.length k0, .slice a1 t.Heard.length k1, .slice a2 t.Line.length k2, .slice a3 t.Log.length k3, .slice a4 t.Next.length k4]).toPtr)); (have s0 := HS3.out.cell (k := 0) 2 rfl rfl); (have s1 := HS3.out.cell (k := 1) 2 rfl rfl); (have s2 := HS3.out.cell (k := 2) 2 rfl rfl))
        | (go_at_call 49; refine (HCS.out _ _ _ (HS3.out.at_ 0 rfl) (HS3.out.ndat (i := 0) rfl)).mono ?_; rintro e w9 ⟨rfl, fp9, hL⟩; (have HSR := Lib.hid (HS3.out.call 0 rfl hL).tail); clear hL s0 s1 s2; (have r0 := HSR.out.cell (k := 0) 0 rfl rfl); (have r1 := HSR.out.cell (k := 1) 0 rfl rfl); (have r2 := HSR.out.cell (k := 2) 0 rfl rfl); (have r3 := HSR.out.cell (k := 3) 0 rfl rfl); (have r4 := HSR.out.cell (k := 4) 0 rfl rfl); (have z0 := HSR.out.frz (k := 0) 0 rfl); (have z1 := HSR.out.frz (k := 1) 0 rfl); (have z2 := HSR.out.frz (k := 2) 0 rfl); (have z3 := HSR.out.frz (k := 3) 0 rfl); (have z4 := HSR.out.frz (k := 4) 0 rfl)))
      rw [HF.out]
      have HSF := Lib.hid (((((HSR.out.setBlk (k := 0) 0 rfl (.slice none 0 0)).setBlk (k := 1) 0 rfl (.slice none 0 0)).setBlk (k := 2) 0 rfl (.slice none 0 0)).setBlk (k := 3) 0 rfl (.slice none 0 0)).setBlk (k := 4) 0 rfl (.slice none 0 0))
      have q0 := HSF.out.cell (k := 0) 0 rfl rfl
      have q1 := HSF.out.cell (k := 1) 0 rfl rfl
      have q2 := HSF.out.cell (k := 2) 0 rfl rfl
      have q3 := HSF.out.cell (k := 3) 0 rfl rfl
      have q4 := HSF.out.cell (k := 4) 0 rfl rfl
      exact bodyPost_ret (v := .tuple #[.agg zTell.toArray, .bool false]) (by simp [results, Try.results18, go_sem, zTell, q0, q1, q2, q3, q4]) rfl (zTe_ret2 HSF.out.bel0)
    | true =>
      have HF : Hid (Pl.stepTell t s = (t', true)) := Lib.hid (by unfold Pl.stepTell; rw [if_pos (by rw [HR.out]; exact ⟨HGD.out, rfl⟩), HR.out])
      go_wp2_with (first
        | (go_at_call 53; refine CI.mono ?_; rintro e w1 ⟨rfl, hb1⟩; (have HS1 := Lib.hid (HS.out.step hb1)); (have HRT1 := Lib.hid (rTell.keep HRT0.out (w' := w1) fun b hb => hb1.block b (Nat.lt_of_lt_of_le hb HBW.out))); (have HBW1 := Lib.hid (Nat.le_trans HBW.out hb1.size)); (clear b0 b1 b2 b3 b4 r0 r1 r2 r3 r4 z0 z1 z2 z3 z4); clear hb1; (have b0 := HS1.out.cell (k := 0) 2 rfl rfl); (have b1 := HS1.out.cell (k := 1) 2 rfl rfl); (have b2 := HS1.out.cell (k := 2) 2 rfl rfl); (have b3 := HS1.out.cell (k := 3) 2 rfl rfl); (have b4 := HS1.out.cell (k := 4) 2 rfl rfl))
        | (go_at_call 54; refine (cloneTell_c t _ w1 B HRT1.out HBW1.out HWF.out.sz hn1).mono ?_; rintro e w2 ⟨cs5, fp5, rfl, ho, hnd, hnew, hb2⟩; obtain ⟨a0, k0, a1, k1, a2, k2, a3, k3, a4, k4, rfl⟩ := own_form ho; (have HS2 := Lib.hid (HS1.out.add hb2 (t := Mm.tow rTell t _ _) ho hnd hnew)); clear ho hnd hnew hb2 b0 b1 b2 b3 b4; (have HS3 := Lib.hid ((HS2.out.alloc' rfl 31 [.slice a0 t.Texts.length k0, .slice a1 t.Heard.length k1, .slice a2 t.Line.length k2, .slice a3 t.Log.length k3, .slice a4 t.Next.length k4]).toPtr)); (have s0 := HS3.out.cell (k := 0) 2 rfl rfl); (have s1 := HS3.out.cell (k := 1) 2 rfl rfl); (have s2 := HS3.out.cell (k := 2) 2 rfl rfl))
        | (go_at_call 49; refine (HCS.out _ _ _ (HS3.out.at_ 0 rfl) (HS3.out.ndat (i := 0) rfl)).mono ?_; rintro e w9 ⟨rfl, fp9, hL⟩; obtain ⟨A10, n10, c10, A11, n11, c11, A12, n12, c12, A13, n13, c13, A14, n14, c14, f10, f11, f12, f13, f14, rfl, hs9⟩ := open_Tell (HS3.out.call 0 rfl hL); (have HSR := Lib.hid hs9); clear hL hs9 s0 s1 s2; (have b0 := HSR.out.cell (k := 0) 0 rfl rfl); (have b1 := HSR.out.cell (k := 1) 0 rfl rfl); (have b2 := HSR.out.cell (k := 2) 0 rfl rfl); (have b3 := HSR.out.cell (k := 3) 0 rfl rfl); (have b4 := HSR.out.cell (k := 4) 0 rfl rfl); (have r0 := HSR.out.cell (k := 0) 6 rfl rfl); (have r1 := HSR.out.cell (k := 1) 6 rfl rfl); (have r2 := HSR.out.cell (k := 2) 6 rfl rfl); (have r3 := HSR.out.cell (k := 3) 6 rfl rfl); (have r4 := HSR.out.cell (k := 4) 6 rfl rfl); (have z0 := HSR.out.frz (k := 0) 6 rfl); (have z1 := HSR.out.frz (k := 1) 6 rfl); (have z2 := HSR.out.frz (k := 2) 6 rfl); (have z3 := HSR.out.frz (k := 3) 6 rfl); (have z4 := HSR.out.frz (k := 4) 6 rfl)))
      have HSF := Lib.hid (((((HSR.out.setBlk (k := 0) 6 rfl (.slice A10 n10 c10)).setBlk (k := 1) 6 rfl (.slice A11 n11 c11)).setBlk (k := 2) 6 rfl (.slice A12 n12 c12)).setBlk (k := 3) 6 rfl (.slice A13 n13 c13)).setBlk (k := 4) 6 rfl (.slice A14 n14 c14))
      have q0 := HSF.out.cell (k := 0) 6 rfl rfl
      have q1 := HSF.out.cell (k := 1) 6 rfl rfl
      have q2 := HSF.out.cell (k := 2) 6 rfl rfl
      have q3 := HSF.out.cell (k := 3) 6 rfl rfl
      have q4 := HSF.out.cell (k := 4) 6 rfl rfl
      rw [HF.out]
      exact bodyPost_ret (v := .tuple #[.agg #[.slice A10 n10 c10, .slice A11 n11 c11, .slice A12 n12 c12, .slice A13 n13 c13, .slice A14 n14 c14], .bool true]) (by simp [results, Try.results18, go_sem, q0, q1, q2, q3, q4]) rfl (tell_ret2 (shutv_Tell (x := t') HSF.out.tail))
end Go.Proofs.Ytaepohocabealaa
