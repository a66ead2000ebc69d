/-
  Joined texts, in build order: E4, E5, Sw, To, E6, E7, E8, Wc, E9, Ea, Eb. Each part says what it proves; no conditions beyond those that a part names.
-/
import Derived.Test.YtihendiakgfpcaaZ01
import Derived.Test.YtihendiakgfpcaaZ02
import Derived.Test.YtihendiakgfpcaaZ03
import Derived.Test.YtihendiakgfpcaaZ04
import Derived.Deep.RegionLaw
import Derived.Deep.DeepCutAuto
import Derived.Lib.Hide
import Derived.WalkSpells
/-
  Contracts: rising lists of numbers: sought, held, put in, taken out (slices at ints; chapters 1, 4 and 8). No conditions beyond those named.
-/
namespace Go.Proofs.Ytihendiakgfpcaa
open Go.RowKit
attribute [local go_sem] und_cell World.cell?_alloc_some
theorem isNaNs_c (a : Int) (w : World) : Calls Try.prog 114 #[.int .i64 a] w fun e w' => e = .returned (.bool false) ∧ w = w' := by
  go_enter Try.func114, Try.ntmps114
  go_wp2
  go_ret
  exact ⟨ret_bool (by simp), rfl⟩
theorem isNaNc_c (a : Int) (w : World) : Calls Try.prog 127 #[.int .i64 a] w fun e w' => e = .returned (.bool false) ∧ w = w' := by
  go_enter Try.func127, Try.ntmps127
  go_wp2
  go_ret
  exact ⟨ret_bool (by simp), rfl⟩
theorem lessI_c (a b : Int) (w : World) : Calls Try.prog 113 #[.int .i64 a, .int .i64 b] w fun e w' => e = .returned (.bool (decide (a < b))) ∧ w = w' := by
  go_enter Try.func113, Try.ntmps113
  go_wp2_with (go_at_call 127; (with_reducible refine (isNaNc_c _ _).mono ?_); rintro e w5 ⟨rfl, rfl⟩)
  go_ret
  exact ⟨rfl, rfl⟩
set_option maxRecDepth 100000 in
set_option maxHeartbeats 1000000 in
theorem bsInt_c (l : List Int) (t : Int) (A : Option Addr) (n c : Nat) (w : World) (B : Nat) (hl : Mm.SlAt Mm.int w B l A n c) (hs : l.Pairwise (· < ·)) (hn : n ≤ 1000) :
    Calls Try.prog 85 #[.slice A n c, .int .i64 t] w fun e w' => e = .returned (.tuple #[.int .i64 (Pl.ipos l t : Nat), .bool (Pl.hasI l t)]) ∧ w = w' := by
  have HL := Lib.hid hl
  have HLN : Hid (l.length = n) := hl.1
  have HS := Lib.hid hs
  obtain ⟨p, hp⟩ : ∃ p, Pl.ipos l t = p := ⟨_, rfl⟩
  have HP := Lib.hid hp
  rw [hp]
  have hpn : p ≤ n := by rw [← hp, ← hl.1]; exact Pl.ipos_le l t
  obtain ⟨b, hb⟩ : ∃ b, Pl.hasI l t = b := ⟨_, rfl⟩
  have HB := Lib.hid hb
  rw [hb]
  clear hl hs hp hb
  go_enter Try.func85, Try.ntmps85
  go_wp2
  go_loopg [7, 8] n (fun g i j wr => wr = w ∧ ∃ a b : Nat, b - a ≤ g ∧ a ≤ p ∧ p ≤ b ∧ b ≤ n ∧ i = .int .i64 a ∧ j = .int .i64 b)
  case atStart => exact ⟨rfl, 0, n, by omega, Nat.zero_le _, hpn, Nat.le_refl _, rfl, rfl⟩
  case round =>
    obtain ⟨rfl, a, b', hg, hap, hpb, hbn, rfl, rfl⟩ := hrel
    by_cases hab : a < b'
    · have f1 : (a : Int) < (b' : Nat) := by omega
      obtain ⟨m, hm⟩ : ∃ m : Nat, ((a : Int) + (b' : Int)) / 2 = m := ⟨(a + b') / 2, by omega⟩
      have hma : a ≤ m := by omega
      have hmb : m < b' := by omega
      obtain ⟨x, bb, off, hx, rfl, hbb, i1, e0⟩ := int_get HL.out (show m < n by omega)
      have HX := Lib.hid hx
      have hlt := Pl.ipos_lt (k := t) HS.out hx
      rw [HP.out] at hlt
      have f2 : (0 : Int) ≤ (m : Nat) := by omega
      have f3 : ((m : Nat) : Int).toNat = m := by omega
      have f4 : (m : Int) < (n : Nat) := by omega
      have f5 : (m : Int) < (b' : Nat) := by omega
      have f6 : (a : Int) ≤ (m : Nat) := by omega
      have f7 : IntKind.i64.wrap ((m : Int) + 1) = (m : Int) + 1 := IntWalk.i64_in _ (by omega)
      clear hx
      by_cases hxt : x < t
      · have hmp : m < p := hlt.2 hxt
        have f8 : decide (x < t) = true := by simpa using hxt
        clear hlt hxt
        go_wp2_with (go_at_call 113; (with_reducible refine (lessI_c _ _ _).mono ?_); rintro e w5 ⟨rfl, rfl⟩)
        go_roundg (b' - (m + 1))
        case measure => omega
        case rel => exact ⟨rfl, m + 1, b', Nat.le_refl _, by omega, hpb, hbn, by go_num, rfl⟩
      · have hmp : p ≤ m := by
          apply Classical.byContradiction
          intro hh
          exact hxt (hlt.1 (by omega))
        have f8 : decide (x < t) = false := by simpa using hxt
        clear hlt hxt
        go_wp2_with (go_at_call 113; (with_reducible refine (lessI_c _ _ _).mono ?_); rintro e w5 ⟨rfl, rfl⟩)
        go_roundg (m - a)
        case measure => omega
        case rel => exact ⟨rfl, a, m, Nat.le_refl _, hap, hmp, by omega, rfl, by go_num⟩
    · have hab2 : a = p := by omega
      subst hab2
      have f1 : ¬ (a : Int) < (b' : Nat) := by omega
      have hmem := Pl.mem_ipos (k := t) HS.out
      rw [HP.out, ← Pl.hasI_iff] at hmem
      by_cases han : a < n
      · obtain ⟨x, bb, off, hx, rfl, hbb, i1, e0⟩ := int_get HL.out han
        have f2 : (0 : Int) ≤ (a : Nat) := by omega
        have f3 : ((a : Nat) : Int).toNat = a := by omega
        have f4 : decide (a < n) = true := by simpa using han
        by_cases hxt : x = t
        · have hbt : b = true := by rw [← HB.out]; exact hmem.2 (by rw [hx, hxt])
          subst hbt
          have f5 : (x == t) = true := by simpa using hxt
          clear hmem hx hxt
          go_wp2_with (go_at_call 114; (with_reducible refine (isNaNs_c _ _).mono ?_); rintro e w5 ⟨rfl, rfl⟩)
          go_ret2
          exact ⟨rfl, rfl⟩
        · have hbt : b = false := by
            cases hb : b with
            | false => rfl
            | true =>
              have := hmem.1 (by rw [HB.out, hb])
              rw [hx] at this; injection this with this; exact absurd this hxt
          subst hbt
          have f5 : (x == t) = false := by simpa using hxt
          clear hmem hx hxt
          go_wp2_with (go_at_call 114; (with_reducible refine (isNaNs_c _ _).mono ?_); rintro e w5 ⟨rfl, rfl⟩)
          go_ret2
          exact ⟨rfl, rfl⟩
      · have hbt : b = false := by
          cases hb : b with
          | false => rfl
          | true =>
            have := (List.getElem?_eq_some_iff.1 (hmem.1 (by rw [HB.out, hb]))).1
            rw [HLN.out] at this; omega
        subst hbt
        have f4 : decide (a < n) = false := by simpa using han
        clear hmem
        go_wp2_with (go_at_call 114; (with_reducible refine (isNaNs_c _ _).mono ?_); rintro e w5 ⟨rfl, rfl⟩)
        go_ret2
        exact ⟨rfl, rfl⟩
theorem Pl.hasI_no {l : List Int} {k : Int} {n : Nat} (hn : l.length ≤ n) (h : ∀ (i : Nat) x, i < n → l[i]? = some x → x ≠ k) : Pl.hasI l k = false := by
  rw [← Bool.not_eq_true, Pl.hasI_iff]
  intro hk
  obtain ⟨i, hi⟩ := List.mem_iff_getElem?.1 hk
  exact h i k (by have := (List.getElem?_eq_some_iff.1 hi).1; omega) hi rfl
theorem Pl.hasI_yes {l : List Int} {k : Int} {i : Nat} (h : l[i]? = some k) : Pl.hasI l k = true := Pl.hasI_iff.2 (List.mem_of_getElem? h)
theorem Pl.snocNe {l : List Int} {k x : Int} {n : Nat} (h : ∀ (i : Nat) y, i < n → l[i]? = some y → y ≠ k) (hx : l[n]? = some x) (hne : x ≠ k) : ∀ (i : Nat) y, i < n + 1 → l[i]? = some y → y ≠ k := fun i y hi hy => by
  rcases Nat.lt_succ_iff_lt_or_eq.1 hi with h1 | rfl
  · exact h i y h1 hy
  · rw [hx] at hy; injection hy with hy; rw [← hy]; exact hne
set_option maxRecDepth 100000 in
theorem l1Has_c (l : List Int) (t : Int) (A : Option Addr) (n c : Nat) (w : World) (B : Nat) (hl : Mm.SlAt Mm.int w B l A n c) :
    Calls Try.prog 106 #[.slice A n c, .int .i64 t] w fun e w' => e = .returned (.bool (Pl.hasI l t)) ∧ w = w' := by
  have hn : n ≤ 9223372036854775807 := by have := hl.2.1; have := hl.2.2.1; unfold maxLen at this; omega
  have HL := Lib.hid hl
  have HLN : Hid (l.length = n) := hl.1
  clear hl
  go_enter Try.func106, Try.ntmps106
  go_wp2
  go_loop [9] (fun i => ∃ k : Nat, k ≤ n ∧ i = .int .i64 k ∧ Hid (∀ (i : Nat) x, i < k → l[i]? = some x → x ≠ t)) (fun i => n - (intOf i).toNat)
  case atStart => exact ⟨0, Nat.zero_le _, rfl, Lib.hid (fun j x hj => absurd hj (Nat.not_lt_zero _))⟩
  case round =>
    obtain ⟨k, hk, rfl, HA⟩ := hrel
    by_cases hlt : k < n
    · obtain ⟨x, b, off, hx, rfl, hb, i1, e0⟩ := int_get HL.out hlt
      by_cases hxt : x = t
      · have HF : Hid (Pl.hasI l t = true) := Pl.hasI_yes (by rw [hx, hxt])
        have f1 : (x == t) = true := by simpa using hxt
        clear hx hxt
        go_wp2
        go_ret
        exact ⟨ret_bool HF.out.symm, rfl⟩
      · have HN := Lib.hid (Pl.snocNe HA.out hx hxt)
        have f1 : (x == t) = false := by simpa using hxt
        clear hx hxt
        go_wp2
        go_round
        case rel => exact ⟨k + 1, by omega, by go_num, HN⟩
        case measure => simp [intOf]; omega
    · have HF : Hid (Pl.hasI l t = false) := Pl.hasI_no (by rw [HLN.out]; omega) HA.out
      go_wp2
      go_ret
      exact ⟨ret_bool HF.out.symm, rfl⟩
set_option maxRecDepth 100000 in
theorem idxI_c (l : List Int) (t : Int) (A : Option Addr) (n c : Nat) (w : World) (B : Nat) (hl : Mm.SlAt Mm.int w B l A n c) :
    Calls Try.prog 123 #[.slice A n c, .int .i64 t] w fun e w' => ∃ i : Int, e = .returned (.int .i64 i) ∧ decide (0 ≤ i) = Pl.hasI l t ∧ w = w' := by
  have hn : n ≤ 9223372036854775807 := by have := hl.2.1; have := hl.2.2.1; unfold maxLen at this; omega
  have HL := Lib.hid hl
  have HLN : Hid (l.length = n) := hl.1
  clear hl
  go_enter Try.func123, Try.ntmps123
  go_wp2
  go_loopg [8] n (fun g i wr => wr = w ∧ ∃ k : Nat, n - k ≤ g ∧ k ≤ n ∧ i = .int .i64 k ∧ Hid (∀ (i : Nat) x, i < k → l[i]? = some x → x ≠ t))
  case atStart => exact ⟨rfl, 0, Nat.le_refl _, Nat.zero_le _, rfl, Lib.hid (fun j x hj => absurd hj (Nat.not_lt_zero _))⟩
  case round =>
    obtain ⟨rfl, k, hgk, hk, rfl, HA⟩ := hrel
    by_cases hlt : k < n
    · obtain ⟨x, b, off, hx, rfl, hb, i1, e0⟩ := int_get HL.out hlt
      have f2 : (0 : Int) ≤ (k : Nat) := by omega
      have f3 : ((k : Nat) : Int).toNat = k := by omega
      by_cases hxt : x = t
      · have HF : Hid (Pl.hasI l t = true) := Pl.hasI_yes (by rw [hx, hxt])
        have f1 : (t == x) = true := by simpa using hxt.symm
        clear hx hxt
        go_wp2
        go_ret
        exact ⟨_, rfl, by rw [HF.out]; simp, rfl⟩
      · have HN := Lib.hid (Pl.snocNe HA.out hx hxt)
        have f1 : (t == x) = false := by simpa using fun h => hxt h.symm
        clear hx hxt
        go_wp2
        go_roundg (n - (k + 1))
        case measure => omega
        case rel => exact ⟨rfl, k + 1, Nat.le_refl _, by omega, by go_num, HN.out⟩
    · have HF : Hid (Pl.hasI l t = false) := Pl.hasI_no (by rw [HLN.out]; omega) HA.out
      go_wp2
      go_ret
      exact ⟨_, rfl, by rw [HF.out]; rfl, rfl⟩
theorem hasI_c (l : List Int) (t : Int) (A : Option Addr) (n c : Nat) (w : World) (B : Nat) (hl : Mm.SlAt Mm.int w B l A n c) :
    Calls Try.prog 93 #[.slice A n c, .int .i64 t] w fun e w' => e = .returned (.bool (Pl.hasI l t)) ∧ w = w' := by
  have C := idxI_c l t A n c w B hl
  obtain ⟨b, hb⟩ : ∃ b, Pl.hasI l t = b := ⟨_, rfl⟩
  rw [hb] at C ⊢
  clear hb hl
  go_enter Try.func93, Try.ntmps93
  go_wp2_with (go_at_call 123; (with_reducible refine C.mono ?_); clear C; rintro e w5 ⟨i, rfl, hi, rfl⟩)
  go_ret
  exact ⟨rfl, rfl⟩
theorem Pl.risI_bad {n : Int} {l : List Int} {k : Nat} {x : Int} (hx : l[k]? = some x) (h : isIn x 0 (n - 1) = false ∨ (0 < k ∧ x ≤ l.getD (k - 1) 0)) : risI n l = false := by
  have hk := (List.getElem?_eq_some_iff.1 hx).1
  unfold risI
  refine allB_no hk ?_
  rw [risP_of hx]
  rcases h with h | ⟨h0, h⟩
  · rw [h, Bool.false_and]
  · have e1 : decide (k = 0) = false := by simp; omega
    have e2 : decide (l.getD (k - 1) 0 < x) = false := by rw [decide_eq_false_iff_not]; omega
    rw [e1, e2]; simp
theorem Pl.getDI_of {l : List Int} {k : Nat} {x : Int} (h : l[k]? = some x) : l.getD k 0 = x := by rw [List.getD_eq_getElem?_getD, h]; rfl
set_option maxRecDepth 100000 in
set_option maxHeartbeats 1000000 in
theorem areNodes_c (m : Nat) (l : List Int) (A : Option Addr) (n c : Nat) (w : World) (B : Nat) (hl : Mm.SlAt Mm.int w B l A n c) (hm : m ≤ 1000000) :
    Calls Try.prog 92 #[(.int .i64 (m : Nat)), (.slice A n c)] w fun e w' => e = .returned (.bool (Pl.risI (m : Int) l)) ∧ Below w.heap.size w w' := by
  have hn : n ≤ 9223372036854775807 := by have := hl.2.1; have := hl.2.2.1; unfold maxLen at this; omega
  have HL := Lib.hid hl
  have HLN : Hid (l.length = n) := hl.1
  have f0 : IntKind.i64.wrap ((m : Int) - 1) = (m : Int) - 1 := IntWalk.i64_in _ (by omega)
  clear hl
  go_enter Try.func92, Try.ntmps92
  go_wp2
  go_loopg [9] n (fun g i wr => ∃ k : Nat, n - k ≤ g ∧ k ≤ n ∧ i = .int .i64 k ∧ Hid (∀ i, i < k → Pl.risP (m : Int) l i = true) ∧ wr = w)
  case atStart => exact ⟨0, Nat.le_refl _, Nat.zero_le _, rfl, Lib.hid (fun j hj => absurd hj (Nat.not_lt_zero _)), rfl⟩
  case round =>
    obtain ⟨k, hgk, hk, rfl, HA, rfl⟩ := hrel
    by_cases hlt : k < n
    · obtain ⟨x, b, off, hx, rfl, hb, i1, e0⟩ := int_get HL.out hlt
      have HX := Lib.hid hx
      have CW := within_c x 0 ((m : Int) - 1) wr
      clear hx
      cases h1 : Pl.isIn x 0 ((m : Int) - 1) with
      | false =>
        have HF : Hid (Pl.risI (m : Int) l = false) := Pl.risI_bad HX.out (.inl h1)
        rw [h1] at CW
        go_wp2_with (go_at_call 43; (with_reducible refine CW.mono ?_); rintro e w5 ⟨rfl, rfl⟩)
        go_ret
        exact ⟨ret_bool HF.out.symm, Below.refl _ _⟩
      | true =>
        rw [h1] at CW
        by_cases h0 : k = 0
        · have HG : Hid (∀ i, i < k + 1 → Pl.risP (m : Int) l i = true) := Lib.hid (Pl.snocB HA.out (by rw [Pl.risP_of HX.out, h1]; simp [h0]))
          have f1 : decide (0 < k) = false := by simp; omega
          clear h0 h1
          go_wp2_with (go_at_call 43; (with_reducible refine CW.mono ?_); rintro e w5 ⟨rfl, rfl⟩)
          go_roundg (n - (k + 1))
          case measure => omega
          case rel => exact ⟨k + 1, Nat.le_refl _, by omega, by go_num, HG.out, rfl⟩
        · have hk0 : 0 < k := by omega
          obtain ⟨y, hy, _, _, e3⟩ := int_get' HL.out (show k - 1 < n by omega)
          have HY := Lib.hid hy
          have f3 : (0 : Int) ≤ (k : Int) - 1 := by omega
          have f4 : 1 ≤ k := by omega
          have f5 : ((k : Int) - 1).toNat = k - 1 := by omega
          have f6 : (k : Int) - 1 < n := by omega
          clear hy h0
          by_cases h3 : y < x
          · have HG : Hid (∀ i, i < k + 1 → Pl.risP (m : Int) l i = true) := Lib.hid (Pl.snocB HA.out (by rw [Pl.risP_of HX.out, h1, Pl.getDI_of HY.out]; simp [h3]))
            have f7 : decide (x ≤ y) = false := by simp; omega
            clear h1
            go_wp2_with (go_at_call 43; (with_reducible refine CW.mono ?_); rintro e w5 ⟨rfl, rfl⟩)
            go_roundg (n - (k + 1))
            case measure => omega
            case rel => exact ⟨k + 1, Nat.le_refl _, by omega, by go_num, HG.out, rfl⟩
          · have HF : Hid (Pl.risI (m : Int) l = false) := Pl.risI_bad HX.out (.inr ⟨hk0, by rw [Pl.getDI_of HY.out]; omega⟩)
            have f7 : decide (x ≤ y) = true := by simp; omega
            clear h1
            go_wp2_with (go_at_call 43; (with_reducible refine CW.mono ?_); rintro e w5 ⟨rfl, rfl⟩)
            go_ret
            exact ⟨ret_bool HF.out.symm, Below.refl _ _⟩
    · have HF : Hid (Pl.risI (m : Int) l = true) := Lib.hid (Pl.allB_yes fun i hi => HA.out i (by rw [HLN.out] at hi; omega))
      go_wp2
      go_ret
      exact ⟨ret_bool HF.out.symm, Below.refl _ _⟩
set_option maxRecDepth 100000 in
set_option maxHeartbeats 1000000 in
theorem l8Rising_c (m : Nat) (l : List Int) (A : Option Addr) (n c : Nat) (w : World) (B : Nat) (hl : Mm.SlAt Mm.int w B l A n c) (hm : m ≤ 1000000) :
    Calls Try.prog 105 #[(.slice A n c), (.int .i64 (m : Nat))] w fun e w' => e = .returned (.bool (Pl.risI (m : Int) l)) ∧ Below w.heap.size w w' := by
  have hn : n ≤ 9223372036854775807 := by have := hl.2.1; have := hl.2.2.1; unfold maxLen at this; omega
  have HL := Lib.hid hl
  have HLN : Hid (l.length = n) := hl.1
  have f0 : IntKind.i64.wrap ((m : Int) - 1) = (m : Int) - 1 := IntWalk.i64_in _ (by omega)
  clear hl
  go_enter Try.func105, Try.ntmps105
  go_wp2
  go_loopg [9] n (fun g i wr => ∃ k : Nat, n - k ≤ g ∧ k ≤ n ∧ i = .int .i64 k ∧ Hid (∀ i, i < k → Pl.risP (m : Int) l i = true) ∧ wr = w)
  case atStart => exact ⟨0, Nat.le_refl _, Nat.zero_le _, rfl, Lib.hid (fun j hj => absurd hj (Nat.not_lt_zero _)), rfl⟩
  case round =>
    obtain ⟨k, hgk, hk, rfl, HA, rfl⟩ := hrel
    by_cases hlt : k < n
    · obtain ⟨x, b, off, hx, rfl, hb, i1, e0⟩ := int_get HL.out hlt
      have HX := Lib.hid hx
      have CW := l1In_c x 0 ((m : Int) - 1) wr
      clear hx
      cases h1 : Pl.isIn x 0 ((m : Int) - 1) with
      | false =>
        have HF : Hid (Pl.risI (m : Int) l = false) := Pl.risI_bad HX.out (.inl h1)
        rw [h1] at CW
        go_wp2_with (go_at_call 71; (with_reducible refine CW.mono ?_); rintro e w5 ⟨rfl, rfl⟩)
        go_ret
        exact ⟨ret_bool HF.out.symm, Below.refl _ _⟩
      | true =>
        rw [h1] at CW
        by_cases h0 : k = 0
        · have HG : Hid (∀ i, i < k + 1 → Pl.risP (m : Int) l i = true) := Lib.hid (Pl.snocB HA.out (by rw [Pl.risP_of HX.out, h1]; simp [h0]))
          have f1 : decide (0 < k) = false := by simp; omega
          clear h0 h1
          go_wp2_with (go_at_call 71; (with_reducible refine CW.mono ?_); rintro e w5 ⟨rfl, rfl⟩)
          go_roundg (n - (k + 1))
          case measure => omega
          case rel => exact ⟨k + 1, Nat.le_refl _, by omega, by go_num, HG.out, rfl⟩
        · have hk0 : 0 < k := by omega
          obtain ⟨y, hy, _, _, e3⟩ := int_get' HL.out (show k - 1 < n by omega)
          have HY := Lib.hid hy
          have f3 : (0 : Int) ≤ (k : Int) - 1 := by omega
          have f4 : 1 ≤ k := by omega
          have f5 : ((k : Int) - 1).toNat = k - 1 := by omega
          have f6 : (k : Int) - 1 < n := by omega
          clear hy h0
          by_cases h3 : y < x
          · have HG : Hid (∀ i, i < k + 1 → Pl.risP (m : Int) l i = true) := Lib.hid (Pl.snocB HA.out (by rw [Pl.risP_of HX.out, h1, Pl.getDI_of HY.out]; simp [h3]))
            have f7 : decide (x ≤ y) = false := by simp; omega
            clear h1
            go_wp2_with (go_at_call 71; (with_reducible refine CW.mono ?_); rintro e w5 ⟨rfl, rfl⟩)
            go_roundg (n - (k + 1))
            case measure => omega
            case rel => exact ⟨k + 1, Nat.le_refl _, by omega, by go_num, HG.out, rfl⟩
          · have HF : Hid (Pl.risI (m : Int) l = false) := Pl.risI_bad HX.out (.inr ⟨hk0, by rw [Pl.getDI_of HY.out]; omega⟩)
            have f7 : decide (x ≤ y) = true := by simp; omega
            clear h1
            go_wp2_with (go_at_call 71; (with_reducible refine CW.mono ?_); rintro e w5 ⟨rfl, rfl⟩)
            go_ret
            exact ⟨ret_bool HF.out.symm, Below.refl _ _⟩
    · have HF : Hid (Pl.risI (m : Int) l = true) := Lib.hid (Pl.allB_yes fun i hi => HA.out i (by rw [HLN.out] at hi; omega))
      go_wp2
      go_ret
      exact ⟨ret_bool HF.out.symm, Below.refl _ _⟩
theorem Try.infoInt : (Try.prog.info? 3).map (fun i => (i.zero, i.size, i.bytes)) = some (some (.int .i64 0), 1, 8) := by kernel_rfl
theorem Pl.outI_next {l : List Int} {k x : Int} {i : Nat} (h : l[i]? = some x) : outI (l.take (i + 1)) k = if x = k then outI (l.take i) k else outI (l.take i) k ++ [x] := by
  unfold outI
  rw [Mm.take_succ_some h, List.filter_append]
  by_cases e : x = k
  · rw [if_pos e, List.filter_cons_of_neg (by simpa using e)]; simp
  · rw [if_neg e, List.filter_cons_of_pos (by simpa using e)]; rfl
theorem Pl.hasI_one (k x : Int) : hasI [k] x = (k == x) := by simp [hasI]
set_option maxRecDepth 100000 in
set_option maxHeartbeats 1000000 in
theorem l4Those_c (l : List Int) (t : Int) (A : Option Addr) (n c : Nat) (A' : Option Addr) (c' : Nat) (w : World) (B : Nat) (hl : Mm.SlAt Mm.int w B l A n c) (hb : Mm.SlAt Mm.int w B [t] A' 1 c') (hB : B ≤ w.heap.size) (hn : n ≤ 1000) :
    Calls Try.prog 121 #[.slice A n c, .slice A' 1 c', .bool false] w (Mm.NewSl Mm.int 3 w (Pl.outI l t)) := by
  have HLN : Hid (l.length = n) := hl.1
  have HL := Lib.hid hl
  have HT := Lib.hid hb
  clear hl hb
  obtain ⟨i0, hi, hz0, hz1, hz2⟩ := info_parts Try.infoInt
  have KS := Lib.hid ((Mm.SepF.start w).add (Below.refl _ _) (t := Mm.tsl Mm.int 3 [] (.slice none 0 0) []) Mm.SlOwn.nil List.nodup_nil (fun b hb => by cases hb))
  go_enter Try.func121, Try.ntmps121
  go_wp2
  go_loopg [7, 12] n (fun g d i wr => ∃ (k m : Nat) (A2 : Option Addr) (c2 : Nat) (fp : List Nat), n - k ≤ g ∧ k ≤ n ∧ m ≤ k ∧ d = .slice A2 m c2 ∧ i = .int .i64 k ∧ Hid ((Pl.outI (l.take k) t).length = m) ∧ Hid (Mm.SepF [] w wr [Mm.tsl Mm.int 3 (Pl.outI (l.take k) t) (.slice A2 m c2) fp]))
  case atStart => exact ⟨0, 0, none, 0, [], Nat.le_refl _, Nat.zero_le _, Nat.le_refl _, rfl, rfl, rfl, KS.out⟩
  case round =>
    obtain ⟨k, m, A2, c2, fp, hgk, hk, hmk, rfl, rfl, HML, HS⟩ := hrel
    obtain ⟨W, rfl⟩ : ∃ W : World, W = wr := ⟨_, rfl⟩
    have hbel := HS.out.bel0
    clear KS
    by_cases hlt : k < n
    · obtain ⟨x, b, off, hx, rfl, hb, i1, e0⟩ := int_get (HL.out.keep (w' := W) fun b hb => hbel.block b (by omega)) hlt
      have HN := Lib.hid (Pl.outI_next (k := t) hx)
      have HI := Lib.hid i1
      have CH := l1Has_c [t] x A' 1 c' W B (HT.out.keep (w' := W) fun b hb => hbel.block b (by omega))
      rw [Pl.hasI_one] at CH
      clear hx i1
      by_cases hxt : x = t
      · have f1 : (t == x) = true := by simpa using hxt.symm
        rw [f1] at CH
        rw [if_pos hxt] at HN
        clear hxt f1
        go_wp2_with (go_at_call 106; (with_reducible refine CH.mono ?_); clear CH; rintro e w5 ⟨rfl, rfl⟩)
        go_roundg (n - (k + 1))
        case measure => omega
        case rel => exact ⟨k + 1, m, _, c2, fp, Nat.le_refl _, by omega, by omega, rfl, by go_num, (by show _ = _; rw [HN.out]; exact HML.out), by rw [HN.out]; exact HS.out⟩
      · have f1 : (t == x) = false := by simpa using fun h => hxt h.symm
        rw [f1] at CH
        rw [if_neg hxt] at HN
        clear hxt f1
        go_wp2_with first
          | (go_at_call 106; (with_reducible refine CH.mono ?_); clear CH; rintro e w5 ⟨rfl, rfl⟩)
          | (at_builtin; refine Mm.app_list (x := x) HS.out 0 rfl rfl (.tmp 21) (.tmp 23) 28 rfl i0 _ 8 Try.underlying28 hi hz0 hz1 hz2 rfl (by decide) rfl rfl (fun W => ⟨rfl, HI.out, rfl⟩) HML.out (by unfold maxLen; omega) (by omega) ?_; intro g cap w' fp' hs; (have HS3 := Lib.hid hs); clear hs)
        go_roundg (n - (k + 1))
        case measure => omega
        case rel => exact ⟨k + 1, m + 1, _, cap, fp', Nat.le_refl _, by omega, by omega, rfl, by go_num, (by show _ = _; rw [HN.out, List.length_append, HML.out]; rfl), by rw [HN.out]; exact HS3.out⟩
    · obtain rfl : k = n := by omega
      have HE : Hid (l.take k = l) := List.take_of_length_le (by rw [HLN.out]; exact Nat.le_refl _)
      go_wp2
      go_ret
      obtain ⟨q1, q2, q3, q4⟩ := HS.out.toSep.own0 0 rfl
      rw [HE.out] at q1
      exact ⟨A2, m, c2, fp, rfl, q1, q2, q3, q4⟩
end Go.Proofs.Ytihendiakgfpcaa

/-
  Contracts: a number put into a rising list, the reference's (chapter 1). No conditions beyond those named.
-/
namespace Go.Proofs.Ytihendiakgfpcaa
open Go.RowKit
attribute [local go_sem] und_cell World.cell?_alloc_some
set_option maxRecDepth 100000 in
set_option maxHeartbeats 2000000 in
theorem l1Put_c (l : List Int) (t : Int) (A : Option Addr) (n c : Nat) (w : World) (B : Nat) (hl : Mm.SlAt Mm.int w B l A n c) (hB : B ≤ w.heap.size) (hs : l.Pairwise (· < ·)) (hn : n ≤ 1000) (ht : Mm.I64 t) (hno : Pl.hasI l t = false) :
    Calls Try.prog 122 #[.slice A n c, .int .i64 t] w (Mm.NewSl Mm.int 3 w (Pl.insI l t)) := by
  have HLN : Hid (l.length = n) := hl.1
  have HL := Lib.hid hl
  have HSO := Lib.hid hs
  have HI := Lib.hid ht
  have hmem : t ∉ l := fun h => by rw [Pl.hasI_iff.2 h] at hno; cases hno
  have HNO := Lib.hid hmem
  have HCC := Lib.hid hl.2
  clear hl hs hno ht hmem
  obtain ⟨i0, hi, hz0, hz1, hz2⟩ := info_parts Try.infoInt
  have KS := Lib.hid ((Mm.SepF.start w).add (Below.refl _ _) (t := Mm.tsl Mm.int 3 [] (.slice none 0 0) []) Mm.SlOwn.nil List.nodup_nil (fun b hb => by cases hb))
  go_enter Try.func122, Try.ntmps122
  go_wp2
  go_loop [5] (fun i => ∃ k : Nat, k ≤ n ∧ i = .int .i64 k ∧ Hid (∀ (i : Nat) x, i < k → l[i]? = some x → x < t)) (fun i => n - (intOf i).toNat)
  case atStart => exact ⟨0, Nat.zero_le _, rfl, Lib.hid (fun j x hj => absurd hj (Nat.not_lt_zero _))⟩
  case round =>
    obtain ⟨k, hk, rfl, HA⟩ := hrel
    by_cases hlt : k < n
    · obtain ⟨x, b, off, hx, rfl, hb, i1, e0⟩ := int_get HL.out hlt
      by_cases hxt : x < t
      · have HN : Hid (∀ (i : Nat) y, i < k + 1 → l[i]? = some y → y < t) := Lib.hid (fun i y hi hy => by
          rcases Nat.lt_succ_iff_lt_or_eq.1 hi with h1 | rfl
          · exact HA.out i y h1 hy
          · rw [hx] at hy; injection hy with hy; rw [← hy]; exact hxt)
        clear hx
        go_wp2
        go_round
        case rel => exact ⟨k + 1, by omega, by go_num, HN⟩
        case measure => simp [intOf]; omega
      · have HP : Hid (Pl.ipos l t = k) := Lib.hid (Pl.ipos_of HSO.out (by rw [HLN.out]; omega) HA.out (fun y hy => by rw [hx] at hy; injection hy with hy; omega))
        have hne : ¬ x = t := fun h => HNO.out (List.mem_of_getElem? (h ▸ hx))
        have f1 : (x == t) = false := by simpa using hne
        have f2 : decide (k < n) = true := by simpa using hlt
        have hkn : k ≤ n := by omega
        have hcn : n ≤ c := HCC.out.1
        have hcm : c ≤ 9223372036854775807 := by have := HCC.out.2.1; unfold maxLen at this; omega
        have HT1 := Lib.hid (HL.out.take hkn)
        have HTD : Hid (Mm.SlAt Mm.int w B (l.drop k) (some ⟨b, off + k, none⟩) (n - k) (c - k)) := Lib.hid (by have h9 := HL.out.drop hkn; rwa [show off + k * Mm.int.size = off + k by show off + k * 1 = _; omega] at h9)
        have HL1 : Hid (([] ++ l.take k).length = k) := by show _ = _; rw [List.nil_append, List.length_take, HLN.out]; omega
        have HL2 : Hid ((([] ++ l.take k) ++ [t]).length + (n - k) = n + 1) := by show _ = _; rw [List.length_append, HL1.out]; simp; omega
        have f6 : ¬ (c = k) := by omega
        have f7 : (k : Int) ≤ (n : Nat) := by omega
        have f8 : (k : Int) ≤ (c : Nat) := by omega
        have f9 : k ≤ c := by omega
        clear hx hne
        go_wp2_with first
          | (at_builtin; refine Mm.wpList_appMany rfl (.tmp 34) (.tmp 37) 28 rfl Mm.flat_int Mm.flatN_int' i0 _ 8 Try.underlying28 hi hz0 hz1 hz2 rfl KS.out 0 rfl HT1.out (m := k) (by simp) (by unfold maxLen; omega) (by omega) rfl rfl ?_; intro A2 c2 fp2 w1 hs1; (have HS1 := Lib.hid hs1); (have HT2 := Lib.hid (HTD.out.keep (w' := w1) fun b hb => hs1.bel0.block b (by omega))); clear hs1)
          | (at_builtin; refine Mm.app_list (x := t) HS1.out 0 rfl rfl (.tmp 39) (.tmp 41) 28 rfl i0 _ 8 Try.underlying28 hi hz0 hz1 hz2 rfl (by decide) rfl rfl (fun W => ⟨rfl, HI.out, rfl⟩) HL1.out (by unfold maxLen; omega) (by omega) ?_; intro g cap w' fp' hs; (have HS3 := Lib.hid hs); (have HT3 := Lib.hid (HTD.out.keep (w' := w') fun b hb => hs.bel0.block b (by omega))); clear hs)
          | (at_builtin; refine Mm.wpList_appMany rfl (.tmp 43) (.tmp 46) 28 rfl Mm.flat_int Mm.flatN_int' i0 _ 8 Try.underlying28 hi hz0 hz1 hz2 rfl HS3.out 0 rfl HT3.out (m := n + 1) HL2.out (by unfold maxLen; omega) (by omega) rfl rfl ?_; intro A4 c4 fp4 w4 hs4; (have HS4 := Lib.hid hs4); clear hs4)
        go_ret
        have HE := Pl.insI_at HSO.out HNO.out
        rw [HP.out] at HE
        obtain ⟨q1, q2, q3, q4⟩ := HS4.out.toSep.own0 0 rfl
        rw [List.nil_append, List.append_assoc, List.singleton_append, HE] at q1
        exact ⟨A4, n + 1, c4, fp4, rfl, q1, q2, q3, q4⟩
    · have HP : Hid (Pl.ipos l t = k) := Lib.hid (Pl.ipos_of HSO.out (by rw [HLN.out]; omega) HA.out (fun y hy => by have := (List.getElem?_eq_some_iff.1 hy).1; rw [HLN.out] at this; omega))
      have f2 : decide (k < n) = false := by simpa using hlt
      obtain rfl : k = n := by omega
      have hkn : k ≤ k := Nat.le_refl _
      have hcn : k ≤ c := HCC.out.1
      have hcm : c ≤ 9223372036854775807 := by have := HCC.out.2.1; unfold maxLen at this; omega
      have HT1 := Lib.hid (HL.out.take hkn)
      have HTD : Hid (∀ A c, c ≤ maxLen → (A = none → c = 0) → Mm.SlAt Mm.int w B (l.drop k) A (k - k) c) := Lib.hid (fun A c h1 h2 => by
        rw [List.drop_of_length_le (by rw [HLN.out]; exact Nat.le_refl _), Nat.sub_self]
        exact Mm.SlAt.nil h1 h2)
      have HL1 : Hid (([] ++ l.take k).length = k) := by show _ = _; rw [List.nil_append, List.length_take, HLN.out]; omega
      have HL2 : Hid ((([] ++ l.take k) ++ [t]).length + (k - k) = k + 1) := by show _ = _; rw [List.length_append, HL1.out]; simp
      have hA : Hid (A = none → c = 0) := Lib.hid HCC.out.2.2.1
      have f7 : (k : Int) ≤ (c : Nat) := by omega
      rcases A with _ | a
      · obtain rfl : c = 0 := hA.out rfl
        obtain rfl : k = 0 := by omega
        have HTD := Lib.hid (HTD.out none 0 (Nat.zero_le _) (fun _ => rfl))
        go_wp2_with first
          | (at_builtin; refine Mm.wpList_appMany rfl (.tmp 34) (.tmp 37) 28 rfl Mm.flat_int Mm.flatN_int' i0 _ 8 Try.underlying28 hi hz0 hz1 hz2 rfl KS.out 0 rfl HT1.out (m := 0) (by simp) (by unfold maxLen; omega) (by omega) rfl rfl ?_; intro A2 c2 fp2 w1 hs1; (have HS1 := Lib.hid hs1); (have HT2 := Lib.hid (HTD.out.keep (w' := w1) fun b hb => hs1.bel0.block b (by omega))); clear hs1)
          | (at_builtin; refine Mm.app_list (x := t) HS1.out 0 rfl rfl (.tmp 39) (.tmp 41) 28 rfl i0 _ 8 Try.underlying28 hi hz0 hz1 hz2 rfl (by decide) rfl rfl (fun W => ⟨rfl, HI.out, rfl⟩) HL1.out (by unfold maxLen; omega) (by omega) ?_; intro g cap w' fp' hs; (have HS3 := Lib.hid hs); (have HT3 := Lib.hid (HTD.out.keep (w' := w') fun b hb => hs.bel0.block b (by omega))); clear hs)
          | (at_builtin; refine Mm.wpList_appMany rfl (.tmp 43) (.tmp 46) 28 rfl Mm.flat_int Mm.flatN_int' i0 _ 8 Try.underlying28 hi hz0 hz1 hz2 rfl HS3.out 0 rfl HT3.out (m := 0 + 1) HL2.out (by unfold maxLen; omega) (by omega) rfl rfl ?_; intro A4 c4 fp4 w4 hs4; (have HS4 := Lib.hid hs4); clear hs4)
        go_ret
        have HE := Pl.insI_at HSO.out HNO.out
        rw [HP.out] at HE
        obtain ⟨q1, q2, q3, q4⟩ := HS4.out.toSep.own0 0 rfl
        rw [List.nil_append, List.append_assoc, List.singleton_append, HE] at q1
        exact ⟨A4, 0 + 1, c4, fp4, rfl, q1, q2, q3, q4⟩
      · by_cases f6 : c = k
        · subst f6
          have HTD := Lib.hid (HTD.out (some a) 0 (Nat.zero_le _) (fun h => by cases h))
          rw [Nat.sub_self] at HTD HL2
          go_wp2_with first
            | (at_builtin; refine Mm.wpList_appMany rfl (.tmp 34) (.tmp 37) 28 rfl Mm.flat_int Mm.flatN_int' i0 _ 8 Try.underlying28 hi hz0 hz1 hz2 rfl KS.out 0 rfl HT1.out (m := c) (by simp) (by unfold maxLen; omega) (by omega) rfl rfl ?_; intro A2 c2 fp2 w1 hs1; (have HS1 := Lib.hid hs1); (have HT2 := Lib.hid (HTD.out.keep (w' := w1) fun b hb => hs1.bel0.block b (by omega))); clear hs1)
            | (at_builtin; refine Mm.app_list (x := t) HS1.out 0 rfl rfl (.tmp 39) (.tmp 41) 28 rfl i0 _ 8 Try.underlying28 hi hz0 hz1 hz2 rfl (by decide) rfl rfl (fun W => ⟨rfl, HI.out, rfl⟩) HL1.out (by unfold maxLen; omega) (by omega) ?_; intro g cap w' fp' hs; (have HS3 := Lib.hid hs); (have HT3 := Lib.hid (HTD.out.keep (w' := w') fun b hb => hs.bel0.block b (by omega))); clear hs)
            | (at_builtin; refine Mm.wpList_appMany rfl (.tmp 43) (.tmp 46) 28 rfl Mm.flat_int Mm.flatN_int' i0 _ 8 Try.underlying28 hi hz0 hz1 hz2 rfl HS3.out 0 rfl HT3.out (m := c + 1) HL2.out (by unfold maxLen; omega) (by omega) rfl rfl ?_; intro A4 c4 fp4 w4 hs4; (have HS4 := Lib.hid hs4); clear hs4)
          go_ret
          have HE := Pl.insI_at HSO.out HNO.out
          rw [HP.out] at HE
          obtain ⟨q1, q2, q3, q4⟩ := HS4.out.toSep.own0 0 rfl
          rw [List.nil_append, List.append_assoc, List.singleton_append, HE] at q1
          exact ⟨A4, c + 1, c4, fp4, rfl, q1, q2, q3, q4⟩
        · have HTD := Lib.hid (HTD.out (some (a.add k)) (c - k) (by unfold maxLen; omega) (fun h => by cases h))
          rw [Nat.sub_self] at HTD HL2
          go_wp2_with first
            | (at_builtin; refine Mm.wpList_appMany rfl (.tmp 34) (.tmp 37) 28 rfl Mm.flat_int Mm.flatN_int' i0 _ 8 Try.underlying28 hi hz0 hz1 hz2 rfl KS.out 0 rfl HT1.out (m := k) (by simp) (by unfold maxLen; omega) (by omega) rfl rfl ?_; intro A2 c2 fp2 w1 hs1; (have HS1 := Lib.hid hs1); (have HT2 := Lib.hid (HTD.out.keep (w' := w1) fun b hb => hs1.bel0.block b (by omega))); clear hs1)
            | (at_builtin; refine Mm.app_list (x := t) HS1.out 0 rfl rfl (.tmp 39) (.tmp 41) 28 rfl i0 _ 8 Try.underlying28 hi hz0 hz1 hz2 rfl (by decide) rfl rfl (fun W => ⟨rfl, HI.out, rfl⟩) HL1.out (by unfold maxLen; omega) (by omega) ?_; intro g cap w' fp' hs; (have HS3 := Lib.hid hs); (have HT3 := Lib.hid (HTD.out.keep (w' := w') fun b hb => hs.bel0.block b (by omega))); clear hs)
            | (at_builtin; refine Mm.wpList_appMany rfl (.tmp 43) (.tmp 46) 28 rfl Mm.flat_int Mm.flatN_int' i0 _ 8 Try.underlying28 hi hz0 hz1 hz2 rfl HS3.out 0 rfl HT3.out (m := k + 1) HL2.out (by unfold maxLen; omega) (by omega) rfl rfl ?_; intro A4 c4 fp4 w4 hs4; (have HS4 := Lib.hid hs4); clear hs4)
          go_ret
          have HE := Pl.insI_at HSO.out HNO.out
          rw [HP.out] at HE
          obtain ⟨q1, q2, q3, q4⟩ := HS4.out.toSep.own0 0 rfl
          rw [List.nil_append, List.append_assoc, List.singleton_append, HE] at q1
          exact ⟨A4, k + 1, c4, fp4, rfl, q1, q2, q3, q4⟩
end Go.Proofs.Ytihendiakgfpcaa

/-
  One element of an owned slice changed, in its own cell and in what it leads to; the same among the things of a call. No program in sight. No conditions.
-/
namespace Go.Proofs.Ytihendiakgfpcaa
open Go.RowKit
namespace Mm
section
variable {α : Type} {E : Rep α} {e : TypeId} {w w' : World} {xs : List α} {fp : List Nat}
theorem Chg.grow {fx : List Nat} {a b : World} (h : Chg fx a b) {k : Nat} (hk : k < a.heap.size) (hn : k ∉ fx) : b.heap[k]? = a.heap[k]? := h.block k hk hn
theorem SlOwn.swap {g n c : Nat} (h : SlOwn E e w xs (.slice (some ⟨g, 0, none⟩) n c) fp) (hnd : fp.Nodup) {i : Nat} {x : α} (hi : xs[i]? = some x) :
    ∃ cs fx, E.own w x cs fx ∧ fx.Nodup ∧ (∀ b, b ∈ fx → b ∈ fp ∧ b ≠ g) ∧ (∀ j u, cs[j]? = some u → w.cell? ⟨g, i * E.size + j, none⟩ = some u) ∧
      ∀ W x' j u fx', Chg fx w W → j < E.size → E.own W x' (cs.set j u) fx' → fx'.Nodup → (∀ b, b ∈ fx' → b ∈ fx ∨ w.heap.size ≤ b) →
        ∃ fp', SlOwn E e (W.setCell ⟨g, i * E.size + j, none⟩ u) (xs.set i x') (.slice (some ⟨g, 0, none⟩) n c) fp' ∧ fp'.Nodup ∧ (∀ b, b ∈ fp' → b ∈ fp ∨ w.heap.size ≤ b) ∧ Chg fp w (W.setCell ⟨g, i * E.size + j, none⟩ u) := by
  have hol := h.olt
  have hgm := h.mem_block
  obtain ⟨es, he, ho, rfl⟩ := h
  have hn : n = xs.length := by
    rcases ho.2 with ⟨h, _⟩ | ⟨g', cap, cur, h, _⟩
    · cases h
    · injection h
  subst hn
  have hil : i < xs.length := (List.getElem?_eq_some_iff.1 hi).1
  have hie : i < es.length := by rw [he.1]; exact hil
  have hy := List.getElem?_eq_getElem hie
  have hown := he.2 i x _ hi hy
  have hgl := hol g hgm
  simp only [Value.ownBlock, Option.toList_some, List.singleton_append, List.nodup_cons] at hnd
  have hgn : ∀ y ∈ es, g ∉ y.2 := fun y hy hg => hnd.1 (List.mem_flatMap.2 ⟨y, hy, hg⟩)
  have hsp := flat_split (·.2) hy
  have hd := hnd.2
  rw [(hsp es[i]).1] at hd
  simp only [List.nodup_append] at hd
  have hmem : ∀ b, b ∈ es[i].2 → b ∈ es.flatMap (·.2) := fun b hb => List.mem_flatMap.2 ⟨_, List.getElem_mem hie, hb⟩
  refine ⟨es[i].1, es[i].2, hown, hd.2.1.1, fun b hb => ⟨List.mem_append_right _ (hmem b hb), fun e => hgn _ (List.getElem_mem hie) (e ▸ hb)⟩, fun j u hu => ?_, fun W x' j u fx' hc hj hx' hxn hxs => ?_⟩
  · have := ho.cells (g := g) rfl (i * E.size + j) u (flatMap_get (·.1) E.size es he.len i _ j u hy hu)
    rw [add0] at this
    exact this
  · have hW : ∀ b, b ≠ g → (W.setCell ⟨g, i * E.size + j, none⟩ u).heap[b]? = W.heap[b]? := fun b hb => Below.heap_setCell _ _ _ _ hb
    have m1 : ∀ y, y ∈ es.take i → ∀ b, b ∈ y.2 → b ∉ es[i].2 := fun y hy b hb hm => hd.2.2 b (List.mem_flatMap.2 ⟨y, hy, hb⟩) b (List.mem_append_left _ hm) rfl
    have m2 : ∀ y, y ∈ es.drop (i + 1) → ∀ b, b ∈ y.2 → b ∉ es[i].2 := fun y hy b hb hm => hd.2.1.2.2 b hm b (List.mem_flatMap.2 ⟨y, hy, hb⟩) rfl
    have hgx : g ∉ fx' := fun hg => by
      rcases hxs g hg with h | h
      · exact hgn _ (List.getElem_mem hie) h
      · omega
    have hsub : ∀ b, b ∈ (es.set i (es[i].1.set j u, fx')).flatMap (·.2) → b ∈ es.flatMap (·.2) ∨ w.heap.size ≤ b := by
      intro b hb
      obtain ⟨y, hy, hb⟩ := List.mem_flatMap.1 hb
      rcases List.mem_or_eq_of_mem_set hy with h | rfl
      · exact .inl (List.mem_flatMap.2 ⟨y, h, hb⟩)
      · exact (hxs b hb).imp (hmem b) id
    have hWo : W.ownsRow 0 e E.size (.slice (some ⟨g, 0, none⟩) xs.length c) xs.length (es.flatMap (·.1)) := by
      refine ⟨ho.1, ?_⟩
      rcases ho.2 with h | ⟨g', cap, cur, hv, h1, h2, h3⟩
      · exact .inl h
      · injection hv with hA _ hcap
        injection hA with hA
        injection hA with hA
        subst hA
        subst hcap
        exact .inr ⟨g, _, cur, rfl, h1, (hc.block g hgl (hgn _ (List.getElem_mem hie))).trans h2, h3⟩
    have h1 := (hWo.stored (i * E.size + j) u).1
    have hs : setList (es.flatMap (·.1)) (i * E.size) (es[i].1.set j u) = (es.flatMap (·.1)).set (i * E.size + j) u := by
      have hlen : (es.flatMap (·.1)).length = xs.length * E.size := ho.1
      have hle : i * E.size + E.size ≤ xs.length * E.size := by
        have := Nat.mul_le_mul_right E.size (show i + 1 ≤ xs.length by omega)
        rw [Nat.add_mul] at this; omega
      have hol := E.olen hown
      apply List.ext_getElem?
      intro k
      rw [setList_get _ _ _ _ (by rw [List.length_set, hol, hlen]; exact hle), List.length_set, hol]
      by_cases hkk : i * E.size ≤ k ∧ k < i * E.size + E.size
      · rw [if_pos hkk]
        by_cases hkj : k = i * E.size + j
        · subst hkj
          rw [show i * E.size + j - i * E.size = j by omega, List.getElem?_set_self (by omega), List.getElem?_set_self (by omega)]
        · rw [List.getElem?_set_ne (by omega), List.getElem?_set_ne (by omega)]
          have hu := List.getElem?_eq_getElem (show k - i * E.size < es[i].1.length by omega)
          have := flatMap_get (·.1) E.size es he.len i _ (k - i * E.size) _ hy hu
          rw [show i * E.size + (k - i * E.size) = k by omega] at this
          rw [this, hu]
      · rw [if_neg hkk, List.getElem?_set_ne (by omega)]
    have hll := setList_elems E.size es i (es[i].1.set j u) fx' he.len (by rw [List.length_set]; exact E.olen hown) hie
    have hchg : Chg (g :: es.flatMap (·.2)) w (W.setCell ⟨g, i * E.size + j, none⟩ u) := (hc.more fun b hb => List.mem_cons_of_mem _ (hmem b hb)).setCell (by simp) u
    refine ⟨_, ⟨es.set i (es[i].1.set j u, fx'), ⟨by rw [List.length_set, List.length_set, he.1], fun k y z hy hz => ?_⟩, ?_, rfl⟩, ?_, ?_, hchg⟩
    · by_cases hki : i = k
      · subst hki
        rw [List.getElem?_set_self hie] at hz
        rw [List.getElem?_set_self hil] at hy
        injection hy with hy; injection hz with hz
        subst hy; subst hz
        exact E.okeep hx' fun b hb => hW b (fun e => hgx (e ▸ hb))
      · rw [List.getElem?_set_ne hki] at hz hy
        have hk := he.2 k y z hy hz
        refine E.okeep hk fun b hb => (hW b (fun e => hgn z (List.mem_of_getElem? hz) (e ▸ hb))).trans (hc.block b (E.olt hk b hb) ?_)
        rcases Nat.lt_or_gt_of_ne hki with h | h
        · refine m2 z (List.mem_of_getElem? (i := k - (i + 1)) ?_) b hb
          rw [List.getElem?_drop, show i + 1 + (k - (i + 1)) = k by omega]
          exact hz
        · refine m1 z (List.mem_of_getElem? (i := k) ?_) b hb
          rw [List.getElem?_take, if_pos h]
          exact hz
    · rw [List.length_set, ← hll, hs]; exact h1
    · simp only [Value.ownBlock, Option.toList_some, List.singleton_append, List.nodup_cons]
      refine ⟨fun hg => ?_, ?_⟩
      · rcases hsub g hg with h | h
        · exact hnd.1 h
        · omega
      rw [(hsp (es[i].1.set j u, fx')).2]
      simp only [List.nodup_append]
      have hL : ∀ b, b ∈ es.flatMap (·.2) → b < w.heap.size := fun b hb => hol b (List.mem_append_right _ hb)
      rw [(hsp es[i]).1] at hL
      refine ⟨hd.1, ⟨hxn, hd.2.1.2.1, fun a ha b hb hab => ?_⟩, fun a ha b hb hab => ?_⟩
      · subst hab
        rcases hxs a ha with h | h
        · exact hd.2.1.2.2 a h a hb rfl
        · have := hL a (List.mem_append_right _ (List.mem_append_right _ hb)); omega
      · subst hab
        rcases List.mem_append.1 hb with hb | hb
        · rcases hxs a hb with h | h
          · exact hd.2.2 a ha a (List.mem_append_left _ h) rfl
          · have := hL a (List.mem_append_left _ ha); omega
        · exact hd.2.2 a ha a (List.mem_append_right _ hb) rfl
    · intro b hb
      rcases List.mem_append.1 hb with hb | hb
      · exact .inl (List.mem_append_left _ hb)
      · exact (hsub b hb).imp (List.mem_append_right _) id
/-- element k is changed, one of its own cells and what it leads to -/
theorem SepF.swap {F : List Nat} {w0 wr : World} {ts : List Thing} {g n c k : Nat} {x : α} (h : SepF F w0 wr ts) (i : Nat) (hi : ts[i]? = some (tsl E e xs (.slice (some ⟨g, 0, none⟩) n c) fp)) (hk : xs[k]? = some x) :
    ∃ cs fx, E.own wr x cs fx ∧ fx.Nodup ∧ (∀ b, b ∈ fx → b ∈ fp ∧ b ≠ g) ∧ (∀ j u, cs[j]? = some u → wr.cell? ⟨g, k * E.size + j, none⟩ = some u) ∧
      ∀ W x' j u fx', Chg fx wr W → j < E.size → E.own W x' (cs.set j u) fx' → fx'.Nodup → (∀ b, b ∈ fx' → b ∈ fx ∨ wr.heap.size ≤ b) →
        ∃ fp', SepF F w0 (W.setCell ⟨g, k * E.size + j, none⟩ u) (ts.set i (tsl E e (xs.set k x') (.slice (some ⟨g, 0, none⟩) n c) fp')) := by
  have h1 : SlOwn E e wr xs (.slice (some ⟨g, 0, none⟩) n c) fp := h.at_ i hi
  obtain ⟨cs, fx, k1, k2, k3, k4, k5⟩ := h1.swap (h.ndat hi) hk
  refine ⟨cs, fx, k1, k2, k3, k4, fun W x' j u fx' m1 m2 m3 m4 m5 => ?_⟩
  obtain ⟨fp', p1, p2, p3, p4⟩ := k5 W x' j u fx' m1 m2 m3 m4 m5
  exact ⟨fp', h.upd hi p4 p1 p2 p3⟩
end
end Mm
end Go.Proofs.Ytihendiakgfpcaa

/-
  A struct behind a pointer, opened into its block and its slices, and shut again. No conditions.
-/
namespace Go.Proofs.Ytihendiakgfpcaa
open Go.RowKit
theorem open_Repl {F : List Nat} {w0 wr : World} {ts : List Mm.Thing} {g : Nat} {x : Repl} {fp : List Nat} (h : Mm.SepF F w0 wr (Mm.tptr rRepl 31 g x fp :: ts)) :
    ∃ A0 n0 c0 A1 n1 c1 A2 n2 c2 A3 n3 c3 f0 f1 f2 f3, fp = f0 ++ (f1 ++ (f2 ++ f3)) ∧ Mm.I64 x.Leader ∧ Mm.I64 x.Epoch ∧ Mm.SepF F w0 wr (Mm.tblk g 31 [.slice A0 n0 c0, .slice A1 n1 c1, .int .i64 x.Leader, .int .i64 x.Epoch, .slice A2 n2 c2, .slice A3 n3 c3] :: Mm.tsl rEntryS 29 x.Logs (.slice A0 n0 c0) f0 :: Mm.tsl Mm.bool 4 x.Down (.slice A1 n1 c1) f1 :: Mm.tsl Mm.int 3 x.InSync (.slice A2 n2 c2) f2 :: Mm.tsl rEntry 111 x.Certain (.slice A3 n3 c3) f3 :: ts) := by
  have h0 := h.hold _ (List.mem_cons_self)
  obtain ⟨cs, hb, ho⟩ := h0
  obtain ⟨A0, n0, c0, A1, n1, c1, A2, n2, c2, A3, n3, c3, f0, f1, f2, f3, rfl, rfl, k0, k1, k2, k3, k4, k5⟩ := rRepl_own ho
  exact ⟨_, _, _, _, _, _, _, _, _, _, _, _, _, _, _, _, rfl, k2, k3, h.conv (by simp [Mm.tblk, Mm.tsl, Mm.tptr]) (List.forall_mem_cons.2 ⟨hb, List.forall_mem_cons.2 ⟨k0, List.forall_mem_cons.2 ⟨k1, List.forall_mem_cons.2 ⟨k4, List.forall_mem_cons.2 ⟨k5, fun u hu => h.hold u (List.mem_cons_of_mem _ hu)⟩⟩⟩⟩⟩)⟩
theorem shut_Repl {F : List Nat} {w0 wr : World} {ts : List Mm.Thing} {g : Nat} {x : Repl} {A0 A1 A2 A3 : Option Addr} {n0 c0 n1 c1 n2 c2 n3 c3 : Nat} {f0 f1 f2 f3 : List Nat} (h : Mm.SepF F w0 wr (Mm.tblk g 31 [.slice A0 n0 c0, .slice A1 n1 c1, .int .i64 x.Leader, .int .i64 x.Epoch, .slice A2 n2 c2, .slice A3 n3 c3] :: Mm.tsl rEntryS 29 x.Logs (.slice A0 n0 c0) f0 :: Mm.tsl Mm.bool 4 x.Down (.slice A1 n1 c1) f1 :: Mm.tsl Mm.int 3 x.InSync (.slice A2 n2 c2) f2 :: Mm.tsl rEntry 111 x.Certain (.slice A3 n3 c3) f3 :: ts)) (s2 : Mm.I64 x.Leader) (s3 : Mm.I64 x.Epoch) :
    Mm.SepF F w0 wr (Mm.tptr rRepl 31 g x (f0 ++ (f1 ++ (f2 ++ f3))) :: ts) :=
  h.conv (by simp [Mm.tblk, Mm.tsl, Mm.tptr]) (List.forall_mem_cons.2 ⟨⟨_, h.at_ 0 rfl, rRepl_own_mk (h.sl 1 rfl) (h.sl 2 rfl) s2 s3 (h.sl 3 rfl) (h.sl 4 rfl)⟩, fun u hu => h.hold u (by
    iterate 5 apply List.mem_cons_of_mem
    exact hu)⟩)
end Go.Proofs.Ytihendiakgfpcaa

/-
  Contracts: what is certain, who is in step: readers of a replication state (chapter 9). No conditions beyond those named.
-/
namespace Go.Proofs.Ytihendiakgfpcaa
open Go.RowKit
attribute [local go_sem] und_cell World.cell?_alloc_some
/-- what a reader of a state asks -/
structure Pl.RS (r : Repl) : Prop where
  n5 : r.Logs.length ≤ 5
  lead : 0 ≤ r.Leader ∧ r.Leader < r.Logs.length
  sync5 : r.InSync.length ≤ 1000
  syncIn : ∀ k, k ∈ r.InSync → 0 ≤ k ∧ k < r.Logs.length
  leadIn : r.Leader ∈ r.InSync
  len : ∀ (k : Nat) (l : List Entry), r.Logs[k]? = some l → l.length ≤ 40
theorem Pl.RW.rs {r : Repl} (h : Pl.RW r) : Pl.RS r := ⟨h.n5, h.lead, by have := h.sync5; omega, h.syncIn, h.leadIn, fun k l hl => (h.logs k l hl).len⟩
theorem Pl.RS.len' {r : Repl} (h : Pl.RS r) (k : Int) : (Pl.logAt r k).length ≤ 40 := by
  unfold Pl.logAt
  rw [List.getD_eq_getElem?_getD]
  cases hl : r.Logs[k.toNat]? with
  | none => exact Nat.zero_le _
  | some l => exact h.len _ _ hl
/-- the log of node k, where it lies -/
theorem log_at {r : Repl} {w : World} {B : Nat} {A : Option Addr} {n c : Nat} {k : Int} (h : Mm.SlAt rEntryS w B r.Logs A n c) (h0 : 0 ≤ k) (h1 : k < n) :
    ∃ b off A' n' c', A = some ⟨b, off, none⟩ ∧ b < B ∧ Mm.SlAt rEntry w B (Pl.logAt r k) A' n' c' ∧ w.cell? ⟨b, off + k.toNat, none⟩ = some (.slice A' n' c') := by
  obtain ⟨x, b, off, A', n', c', hx, rfl, hb, hr, e⟩ := rEntryS_get h (show k.toNat < n by omega)
  rw [Pl.logAt_of hx]
  exact ⟨b, off, A', n', c', rfl, hb, hr, e⟩
theorem log_at' {r : Repl} {w : World} {B : Nat} {b off n c : Nat} {k : Int} (h : Mm.SlAt rEntryS w B r.Logs (some ⟨b, off, none⟩) n c) (h0 : 0 ≤ k) (h1 : k < n) :
    ∃ A' n' c', b < B ∧ Mm.SlAt rEntry w B (Pl.logAt r k) A' n' c' ∧ w.cell? ⟨b, off + k.toNat, none⟩ = some (.slice A' n' c') := by
  obtain ⟨b', off', A', n', c', hA, hb, hr, e⟩ := log_at h h0 h1
  injection hA with hA
  injection hA with h2 h3
  subst h2 h3
  exact ⟨A', n', c', hb, hr, e⟩
set_option maxRecDepth 100000 in
set_option maxHeartbeats 1000000 in
theorem certain_c (r : Repl) (g : Nat) (cs : List Value) (w : World) (B : Nat) (hb : Mm.Blk w g 31 cs) (hr : rRepl.at_ w B r cs) (hB : B ≤ w.heap.size) (hs : Pl.RS r) :
    Calls Try.prog 51 #[.pointer (some ⟨g, 0, none⟩)] w fun e w' => e = .returned (.int .i64 (Pl.certain r : Nat)) ∧ Below w.heap.size w w' := by
  obtain ⟨A0, n0, c0, A1, n1, c1, A2, n2, c2, A3, n3, c3, rfl, r0, r1, i2, i3, r4, r5⟩ := rRepl_at hr
  have HLE := Lib.hid (Pl.certF_start r hs.leadIn (hs.len' r.Leader))
  have hn0 : n0 ≤ 5 := by rw [← r0.1]; exact hs.n5
  have hn2 : n2 ≤ 1000 := by rw [← r4.1]; exact hs.sync5
  have l0 : 0 ≤ r.Leader := hs.lead.1
  have l1 : r.Leader < n0 := by have := hs.lead.2; rw [r0.1] at this; exact this
  have HSI : Hid (∀ k, k ∈ r.InSync → 0 ≤ k ∧ k < (n0 : Int)) := Lib.hid (fun k hk => by have := hs.syncIn k hk; rw [r0.1] at this; exact this)
  obtain ⟨b0, off0, A', n', c', rfl, hb0, hl0, e0⟩ := log_at r0 l0 l1
  have R0 := Lib.hid r0
  have R4 := Lib.hid r4
  have N4 : Hid (r.InSync.length = n2) := r4.1
  have HBK := Lib.hid hb
  have hg := hb.lt
  have d4 := hb.cell (i := 4) rfl
  have HS := Lib.hid hs
  clear hr r0 r1 i2 i3 r4 r5 hb hs hl0 e0
  go_enter Try.func51, Try.ntmps51
  go_wp2
  clear d4
  go_loopg [3, 11] n2 (fun gg lv i wr => ∃ k m : Nat, n2 - k ≤ gg ∧ k ≤ n2 ∧ lv = .int .i64 m ∧ i = .int .i64 k ∧ Hid (m = Pl.certF r 40 (r.InSync.take k)) ∧ m ≤ 40 ∧ Hid (Below w.heap.size w wr))
  case atStart => exact ⟨0, 40, Nat.le_refl _, Nat.zero_le _, rfl, rfl, rfl, Nat.le_refl _, Below.refl _ _⟩
  case round =>
    obtain ⟨k, m, hgk, hk, rfl, rfl, HM, hm40, HB⟩ := hrel
    obtain ⟨W, rfl⟩ : ∃ W : World, W = wr := ⟨_, rfl⟩
    by_cases hlt : k < n2
    · have HB2 := Lib.hid (HBK.out.bel HB.out)
      have hsz := HB.out.size
      have KE : ∀ {α : Type} {E : Mm.Rep α} {xs : List α} {A : Option Addr} {n c : Nat}, Mm.SlAt E w B xs A n c → Mm.SlAt E W B xs A n c := fun h => h.keep (w' := W) fun b hb => HB.out.block b (by omega)
      obtain ⟨x, b4, off4, hx, rfl, hb4, ix, e4⟩ := int_get (KE R4.out) hlt
      obtain ⟨x0, x1⟩ := HSI.out x (List.mem_of_getElem? hx)
      obtain ⟨AL, nL, cL, _, hlL, eL⟩ := log_at' (KE R0.out) l0 l1
      obtain ⟨AX, nX, cX, _, hlX, eX⟩ := log_at' (KE R0.out) x0 x1
      have d0 := HB2.out.cell (i := 0) rfl
      have d2 := HB2.out.cell (i := 2) rfl
      have HN := Lib.hid (show Pl.certF r 40 (r.InSync.take (k + 1)) = min m (Pl.part (Pl.logAt r r.Leader) (Pl.logAt r x)) by rw [Mm.take_succ_some hx, Pl.certF_snoc, ← HM.out])
      have HLX := Lib.hid (And.intro hlL hlX)
      have CP := fun z : Und W => und_call z (partAt_c (Pl.logAt r r.Leader) (Pl.logAt r x) AL nL cL AX nX cX (und W z) B (HLX.out.1.und (by omega) z) (HLX.out.2.und (by omega) z) (Nat.le_trans (by omega) (und_size z)))
      obtain ⟨p, hp⟩ : ∃ p, Pl.part (Pl.logAt r r.Leader) (Pl.logAt r x) = p := ⟨_, rfl⟩
      rw [hp] at HN CP
      clear hx hlL hlX hp ix KE
      by_cases hpm : p < m
      · have f1 : (p : Int) < m := by omega
        rw [Nat.min_eq_right (by omega)] at HN
        go_wp2
        refine wp_region_und (by kernel_rfl) (by kernel_rfl) ?_
        repeat (go_big_quiet_step ((first | (go_at_call 53; with_reducible exact CP _))))
        refine wpQuiet_nil ?_
        intro X hX
        go_wp2
        go_roundg (n2 - (k + 1))
        case measure => omega
        case rel => exact ⟨k + 1, p, Nat.le_refl _, by omega, by rw [Int.min_eq_right (by omega)], by go_num, HN.out.symm, by omega, below_step HB.out hX⟩
      · have f1 : ¬ (p : Int) < m := by omega
        rw [Nat.min_eq_left (by omega)] at HN
        go_wp2
        refine wp_region_und (by kernel_rfl) (by kernel_rfl) ?_
        repeat (go_big_quiet_step ((first | (go_at_call 53; with_reducible exact CP _))))
        refine wpQuiet_nil ?_
        intro X hX
        go_wp2
        go_roundg (n2 - (k + 1))
        case measure => omega
        case rel => exact ⟨k + 1, m, Nat.le_refl _, by omega, by rw [Int.min_eq_left (by omega)], by go_num, HN.out.symm, by omega, below_step HB.out hX⟩
    · have HF : Hid (Pl.certain r = m) := by
        show _ = _
        unfold Pl.certain
        rw [← HLE.out, HM.out, List.take_of_length_le (by rw [N4.out]; omega)]
      go_wp2
      go_ret
      exact ⟨ret_int (by rw [HF.out]), HB.out⟩
set_option maxRecDepth 100000 in
set_option maxHeartbeats 1000000 in
theorem l9Certain_c (r : Repl) (cs : List Value) (w : World) (B : Nat) (hr : rRepl.at_ w B r cs) (hB : B ≤ w.heap.size) (hs : Pl.RS r) :
    Calls Try.prog 69 #[.agg cs.toArray] w fun e w' => e = .returned (.int .i64 (Pl.certain r : Nat)) ∧ Below w.heap.size w w' := by
  obtain ⟨A0, n0, c0, A1, n1, c1, A2, n2, c2, A3, n3, c3, rfl, r0, r1, i2, i3, r4, r5⟩ := rRepl_at hr
  have hn0 : n0 ≤ 5 := by rw [← r0.1]; exact hs.n5
  have hn2 : n2 ≤ 1000 := by rw [← r4.1]; exact hs.sync5
  have l0 : 0 ≤ r.Leader := hs.lead.1
  have l1 : r.Leader < n0 := by have := hs.lead.2; rw [r0.1] at this; exact this
  have HSI : Hid (∀ k, k ∈ r.InSync → 0 ≤ k ∧ k < (n0 : Int)) := Lib.hid (fun k hk => by have := hs.syncIn k hk; rw [r0.1] at this; exact this)
  have hll := hs.len' r.Leader
  obtain ⟨W0, hW0⟩ : ∃ W0, w.alloc (.cells #[.slice A0 n0 c0, .slice A1 n1 c1, .int .i64 r.Leader, .int .i64 r.Epoch, .slice A2 n2 c2, .slice A3 n3 c3] 31) = W0 := ⟨_, rfl⟩
  obtain ⟨g, hg0⟩ : ∃ g, w.heap.size = g := ⟨_, rfl⟩
  have hb : Mm.Blk W0 g 31 [.slice A0 n0 c0, .slice A1 n1 c1, .int .i64 r.Leader, .int .i64 r.Epoch, .slice A2 n2 c2, .slice A3 n3 c3] := by rw [← hW0, ← hg0]; exact Mm.Blk.new w _ _
  have hbw : Below w.heap.size w W0 := by rw [← hW0]; exact below_new (Below.refl _ _) _
  have q0 := r0.keep (w' := W0) fun b hb => hbw.block b (by omega)
  have q4 := r4.keep (w' := W0) fun b hb => hbw.block b (by omega)
  have hBW := Nat.le_trans hB hbw.size
  obtain ⟨b0, off0, AL, nL, cL, rfl, hb0, hl0, e0⟩ := log_at q0 l0 l1
  have hnL : nL ≤ 40 := by rw [← hl0.1]; exact hll
  have R0 := Lib.hid q0
  have R4 := Lib.hid q4
  have RL := Lib.hid hl0
  have N4 : Hid (r.InSync.length = n2) := r4.1
  have HBK := Lib.hid hb
  have HBW := Lib.hid hbw
  have hg := hb.lt
  have d4 := hb.cell (i := 4) rfl
  have d0 := hb.cell (i := 0) rfl
  have d2 := hb.cell (i := 2) rfl
  clear hr r0 r1 i2 i3 r4 r5 hb hs q0 q4 hll hl0 hbw
  go_enter Try.func69, Try.ntmps69
  go_wp2
  clear d4 d0 d2 e0 hW0
  go_loopg [4, 19] n2 (fun gg lv i wr => ∃ k m : Nat, n2 - k ≤ gg ∧ k ≤ n2 ∧ lv = .int .i64 m ∧ i = .int .i64 k ∧ Hid (m = Pl.certF r (Pl.logAt r r.Leader).length (r.InSync.take k)) ∧ m ≤ 40 ∧ Hid (Below W0.heap.size W0 wr))
  case atStart => exact ⟨0, nL, Nat.le_refl _, Nat.zero_le _, rfl, rfl, RL.out.1.symm, hnL, Below.refl _ _⟩
  case round =>
    obtain ⟨k, m, hgk, hk, rfl, rfl, HM, hm40, HB⟩ := hrel
    obtain ⟨W, rfl⟩ : ∃ W : World, W = wr := ⟨_, rfl⟩
    by_cases hlt : k < n2
    · have HB2 := Lib.hid (HBK.out.bel HB.out)
      have hsz := HB.out.size
      have KE : ∀ {α : Type} {E : Mm.Rep α} {xs : List α} {A : Option Addr} {n c : Nat}, Mm.SlAt E W0 B xs A n c → Mm.SlAt E W B xs A n c := fun h => h.keep (w' := W) fun b hb => HB.out.block b (by omega)
      obtain ⟨x, b4, off4, hx, rfl, hb4, ix, e4⟩ := int_get (KE R4.out) hlt
      obtain ⟨x0, x1⟩ := HSI.out x (List.mem_of_getElem? hx)
      obtain ⟨AX, nX, cX, _, hlX, eX⟩ := log_at' (KE R0.out) x0 x1
      have d0 := HB2.out.cell (i := 0) rfl
      have HN := Lib.hid (show Pl.certF r (Pl.logAt r r.Leader).length (r.InSync.take (k + 1)) = min m (Pl.part (Pl.logAt r r.Leader) (Pl.logAt r x)) by rw [Mm.take_succ_some hx, Pl.certF_snoc, ← HM.out])
      have CP := l7Part_c (Pl.logAt r x) (Pl.logAt r r.Leader) AX nX cX AL nL cL W B hlX (KE RL.out) (by omega)
      rw [Pl.part_comm] at CP
      obtain ⟨p, hp⟩ : ∃ p, Pl.part (Pl.logAt r r.Leader) (Pl.logAt r x) = p := ⟨_, rfl⟩
      rw [hp] at HN CP
      clear hx hlX hp ix KE
      by_cases hpm : p < m
      · have f1 : (p : Int) < m := by omega
        rw [Nat.min_eq_right (by omega)] at HN
        go_wp2_with (go_at_call 109; (with_reducible refine CP.mono ?_); clear CP; rintro e w5 ⟨rfl, hb5⟩)
        go_roundg (n2 - (k + 1))
        case measure => omega
        case rel => exact ⟨k + 1, p, Nat.le_refl _, by omega, rfl, by go_num, HN.out.symm, by omega, below_step HB.out hb5⟩
      · have f1 : ¬ (p : Int) < m := by omega
        rw [Nat.min_eq_left (by omega)] at HN
        go_wp2_with (go_at_call 109; (with_reducible refine CP.mono ?_); clear CP; rintro e w5 ⟨rfl, hb5⟩)
        go_roundg (n2 - (k + 1))
        case measure => omega
        case rel => exact ⟨k + 1, m, Nat.le_refl _, by omega, rfl, by go_num, HN.out.symm, by omega, below_step HB.out hb5⟩
    · have HF : Hid (Pl.certain r = m) := by
        show _ = _
        unfold Pl.certain
        rw [HM.out, List.take_of_length_le (by rw [N4.out]; omega)]
      go_wp2
      go_ret
      exact ⟨ret_int (by rw [HF.out]), below_step HBW.out HB.out⟩
end Go.Proofs.Ytihendiakgfpcaa

/-
  Contracts: whether two logs are the same (chapter 9). No conditions beyond those named.
-/
namespace Go.Proofs.Ytihendiakgfpcaa
open Go.RowKit
attribute [local go_sem] und_cell World.cell?_alloc_some
def Pl.eqLog (l m : List Entry) : Bool := decide (l.length = m.length) && decide (Pl.part l m = m.length)
theorem Pl.same_eqLog (r : Repl) (k : Int) : Pl.sameLog r k = Pl.eqLog (Pl.logAt r k) (Pl.logAt r r.Leader) := rfl
theorem run_neEntry (x y : Entry) (W : World) : (binOp .neq 111 (.agg #[.int .i64 x.Epoch, .string x.Text]) (.agg #[.int .i64 y.Epoch, .string y.Text])).run Try.prog W = .ok (.bool (!Pl.eqE x y)) W := by
  have ht : Try.prog.underlying 111 = some (.struct (Try.prog.fieldsOf 111)) := by simp [Program.fieldsOf, Try.underlying111]
  rw [run_neq_struct, run_equalIn_agg _ _ _ _ _ ht Try.stoodEntry]
  unfold Pl.eqE
  cases h1 : decide (x.Epoch = y.Epoch) <;> cases h2 : (x.Text.toList == y.Text.toList) <;>
    simp [Program.fieldsOf, Try.underlying111, Op.eqFields, go_sem] <;> simp_all
set_option maxRecDepth 100000 in
set_option maxHeartbeats 1000000 in
theorem equalE_c (l m : List Entry) (A : Option Addr) (n c : Nat) (A' : Option Addr) (n' c' : Nat) (w : World) (B : Nat) (hl : Mm.SlAt rEntry w B l A n c) (hm : Mm.SlAt rEntry w B m A' n' c') (hB : B ≤ w.heap.size) :
    Calls Try.prog 110 #[.slice A n c, .slice A' n' c'] w fun e w' => e = .returned (.bool (Pl.eqLog l m)) ∧ Below w.heap.size w w' := by
  have hn : n ≤ 9223372036854775807 := by have := hl.2.1; have := hl.2.2.1; unfold maxLen at this; omega
  have hn' : n' ≤ 9223372036854775807 := by have := hm.2.1; have := hm.2.2.1; unfold maxLen at this; omega
  have HL := Lib.hid hl
  have HM := Lib.hid hm
  have HLN : Hid (l.length = n) := hl.1
  have HMN : Hid (m.length = n') := hm.1
  clear hl hm
  by_cases hnn : n = n'
  · subst hnn
    go_enter Try.func110, Try.ntmps110
    go_wp2
    go_loopg [13] n (fun g i wr => ∃ (k : Nat), n - k ≤ g ∧ k ≤ n ∧ i = .int .i64 k ∧ Hid (l.take k = m.take k) ∧ Hid (Below w.heap.size w wr))
    case atStart => exact ⟨0, Nat.le_refl _, Nat.zero_le _, rfl, rfl, Below.refl _ _⟩
    case round =>
      obtain ⟨k, hgk, hk, rfl, HT, HB⟩ := hrel
      obtain ⟨W, rfl⟩ : ∃ W : World, W = wr := ⟨_, rfl⟩
      by_cases hlt : k < n
      · obtain ⟨x, b, off, hx, rfl, hb, i1, i2, e0, e1⟩ := rEntry_get (HL.out.keep (w' := W) fun b hb => HB.out.block b (by omega)) hlt
        obtain ⟨y, b', off', hy, rfl, hb', i1', i2', e0', e1'⟩ := rEntry_get (HM.out.keep (w' := W) fun b hb => HB.out.block b (by omega)) hlt
        have f2 : (0 : Int) ≤ (k : Nat) := by omega
        have f3 : ((k : Nat) : Int).toNat = k := by omega
        have HX := Lib.hid hx
        have HY := Lib.hid hy
        have f5 := fun W => run_neEntry x y W
        clear hx hy
        cases he : Pl.eqE x y with
        | true =>
          obtain rfl := Pl.eqE_iff.1 he
          rw [he] at f5
          clear he
          have HN : Hid (l.take (k + 1) = m.take (k + 1)) := Pl.take_next HT.out HX.out HY.out
          go_wp2
          refine wp_region_und (by kernel_rfl) (by kernel_rfl) ?_
          repeat (go_big_quiet_step ((first | fail)))
          refine wpQuiet_nil ?_
          intro X hX
          go_wp2
          go_roundg (n - (k + 1))
          case measure => omega
          case rel => exact ⟨k + 1, Nat.le_refl _, by omega, by go_num, HN.out, below_step' HB.out hX HB.out.size⟩
        | false =>
          have HF : Hid (Pl.eqLog l m = false) := by
            show _ = _
            unfold Pl.eqLog
            rw [Pl.part_of l m k (by rw [HLN.out]; omega) (by rw [HMN.out]; omega) HT.out (fun u v hu hv => by
              rw [HX.out] at hu; rw [HY.out] at hv; injection hu with hu; injection hv with hv; rw [← hu, ← hv]; exact he)]
            have : decide (k = m.length) = false := by rw [HMN.out]; simp; omega
            rw [this, Bool.and_false]
          rw [he] at f5
          clear he
          go_wp2
          refine wp_region_und (by kernel_rfl) (by kernel_rfl) ?_
          repeat (go_big_quiet_step ((first | fail)))
          refine wpQuiet_nil ?_
          intro X hX
          go_wp2
          go_ret
          exact ⟨ret_bool HF.out.symm, below_step' HB.out hX HB.out.size⟩
      · obtain rfl : k = n := by omega
        have HF : Hid (Pl.eqLog l m = true) := by
          show _ = _
          unfold Pl.eqLog
          rw [Pl.part_of l m k (by rw [HLN.out]; omega) (by rw [HMN.out]; omega) HT.out (fun u v hu hv => by
            have h1 := (List.getElem?_eq_some_iff.1 hu).1
            rw [HLN.out] at h1
            omega), HLN.out, HMN.out]
          simp
        go_wp2
        go_ret
        exact ⟨ret_bool HF.out.symm, HB.out⟩
  · have HF : Hid (Pl.eqLog l m = false) := by
      show _ = _
      unfold Pl.eqLog
      rw [HLN.out, HMN.out]
      simp [hnn]
    have f1 : (n != n') = true := by simpa using hnn
    have f2 : ((n : Int) != (n' : Int)) = true := by simp; omega
    go_enter Try.func110, Try.ntmps110
    go_wp2
    go_ret
    exact ⟨ret_bool HF.out.symm, Below.refl _ _⟩
set_option maxRecDepth 100000 in
set_option maxHeartbeats 1000000 in
theorem inStep_c (r : Repl) (k : Int) (g : Nat) (cs : List Value) (w : World) (B : Nat) (hb : Mm.Blk w g 31 cs) (hr : rRepl.at_ w B r cs) (hB : B ≤ w.heap.size) (hs : Pl.RS r) (k0 : 0 ≤ k) (k1 : k < r.Logs.length) :
    Calls Try.prog 70 #[.pointer (some ⟨g, 0, none⟩), .int .i64 k] w fun e w' => e = .returned (.bool (Pl.sameLog r k)) ∧ Below w.heap.size w w' := by
  obtain ⟨A0, n0, c0, A1, n1, c1, A2, n2, c2, A3, n3, c3, rfl, r0, r1, i2, i3, r4, r5⟩ := rRepl_at hr
  have l0 : 0 ≤ r.Leader := hs.lead.1
  have l1 : r.Leader < n0 := by have := hs.lead.2; rw [r0.1] at this; exact this
  have k1' : k < n0 := by rw [r0.1] at k1; exact k1
  obtain ⟨b0, off0, AL, nL, cL, rfl, hb0, hl0, e0⟩ := log_at r0 l0 l1
  obtain ⟨AK, nK, cK, _, hlk, ek⟩ := log_at' r0 k0 k1'
  have d0 := hb.cell (i := 0) rfl
  have d2 := hb.cell (i := 2) rfl
  have HLK := Lib.hid (And.intro hl0 hlk)
  have CE := fun z : Und w => und_call z (equalE_c (Pl.logAt r k) (Pl.logAt r r.Leader) AK nK cK AL nL cL (und w z) B (HLK.out.2.und hB z) (HLK.out.1.und hB z) (Nat.le_trans hB (und_size z)))
  rw [Pl.same_eqLog]
  obtain ⟨q, hq⟩ : ∃ q, Pl.eqLog (Pl.logAt r k) (Pl.logAt r r.Leader) = q := ⟨_, rfl⟩
  rw [hq] at CE ⊢
  clear hr r0 r1 i2 i3 r4 r5 hb hs hl0 hlk hq k1
  go_enter Try.func70, Try.ntmps70
  go_wp2
  refine wp_region_und (by kernel_rfl) (by kernel_rfl) ?_
  repeat (go_big_quiet_step ((first | (go_at_call 110; with_reducible exact CE _))))
  refine wpQuiet_nil ?_
  intro X hX
  go_wp2
  go_ret
  exact ⟨rfl, hX⟩
set_option maxRecDepth 100000 in
set_option maxHeartbeats 1000000 in
theorem l9Same_c (r : Repl) (k : Int) (cs : List Value) (w : World) (B : Nat) (hr : rRepl.at_ w B r cs) (hB : B ≤ w.heap.size) (hs : Pl.RS r) (k0 : 0 ≤ k) (k1 : k < r.Logs.length) :
    Calls Try.prog 72 #[.agg cs.toArray, .int .i64 k] w fun e w' => e = .returned (.bool (Pl.sameLog r k)) ∧ Below w.heap.size w w' := by
  obtain ⟨A0, n0, c0, A1, n1, c1, A2, n2, c2, A3, n3, c3, rfl, r0, r1, i2, i3, r4, r5⟩ := rRepl_at hr
  have l0 : 0 ≤ r.Leader := hs.lead.1
  have l1 : r.Leader < n0 := by have := hs.lead.2; rw [r0.1] at this; exact this
  have k1' : k < n0 := by rw [r0.1] at k1; exact k1
  obtain ⟨W0, hW0⟩ : ∃ W0, w.alloc (.cells #[.slice A0 n0 c0, .slice A1 n1 c1, .int .i64 r.Leader, .int .i64 r.Epoch, .slice A2 n2 c2, .slice A3 n3 c3] 31) = W0 := ⟨_, rfl⟩
  obtain ⟨g, hg0⟩ : ∃ g, w.heap.size = g := ⟨_, rfl⟩
  have hb : Mm.Blk W0 g 31 [.slice A0 n0 c0, .slice A1 n1 c1, .int .i64 r.Leader, .int .i64 r.Epoch, .slice A2 n2 c2, .slice A3 n3 c3] := by rw [← hW0, ← hg0]; exact Mm.Blk.new w _ _
  have hbw : Below w.heap.size w W0 := by rw [← hW0]; exact below_new (Below.refl _ _) _
  have q0 := r0.keep (w' := W0) fun b hb => hbw.block b (by omega)
  have hBW := Nat.le_trans hB hbw.size
  obtain ⟨b0, off0, AL, nL, cL, rfl, hb0, hl0, e0⟩ := log_at q0 l0 l1
  obtain ⟨AK, nK, cK, _, hlk, ek⟩ := log_at' q0 k0 k1'
  have d0 := hb.cell (i := 0) rfl
  have d2 := hb.cell (i := 2) rfl
  have HLK := Lib.hid (And.intro hl0 hlk)
  have HBW := Lib.hid hbw
  have CP := l7Part_c (Pl.logAt r k) (Pl.logAt r r.Leader) AK nK cK AL nL cL W0 B hlk hl0 hBW
  obtain ⟨p, hp⟩ : ∃ p, Pl.part (Pl.logAt r k) (Pl.logAt r r.Leader) = p := ⟨_, rfl⟩
  have HF : Hid (Pl.sameLog r k = (decide (nK = nL) && decide (p = nL))) := by
    show _ = _
    unfold Pl.sameLog
    rw [hp, hl0.1, hlk.1]
  rw [hp] at CP
  clear hr r0 r1 i2 i3 r4 r5 hb hs hl0 hlk hp k1 q0 hbw
  by_cases hnn : nK = nL
  · subst hnn
    have f1 : ((nK : Int) == nK) = true := by simp
    go_enter Try.func72, Try.ntmps72
    go_wp2_with (go_at_call 109; (with_reducible refine CP.mono ?_); clear CP; rintro e w5 ⟨rfl, hb5⟩)
    go_ret
    exact ⟨ret_bool (by rw [HF.out, Bool.eq_iff_iff]; simp; try omega), below_step HBW.out hb5⟩
  · have f1 : ((nK : Int) == nL) = false := by simp; omega
    have f2 : (nK == nL) = false := by simp; omega
    go_enter Try.func72, Try.ntmps72
    go_wp2_with (go_at_call 109; (with_reducible refine CP.mono ?_); clear CP; rintro e w5 ⟨rfl, hb5⟩)
    go_ret
    exact ⟨ret_bool (by rw [HF.out]; simp [hnn]), HBW.out⟩
end Go.Proofs.Ytihendiakgfpcaa

/-
  Contracts: a follower fetches an entry of the leader, the program's (chapter 9). No conditions beyond those named.
-/
namespace Go.Proofs.Ytihendiakgfpcaa
open Go.RowKit
attribute [local go_sem] und_cell cha_cell World.cell?_alloc_some
namespace Mm
/-- the head of an owned slice whose elements lead nowhere -/
theorem FlatN.head {α : Type} {E : Rep α} {enc : α → List Value} {e : TypeId} {w : World} {xs : List α} {A : Option Addr} {n c k : Nat} {fp : List Nat} (hF : FlatN E enc) (h : SlOwn E e w xs (.slice A n c) fp) (hk : k ≤ n) : SlOwn E e w (xs.take k) (.slice A k c) fp := by
  obtain ⟨_, _, hown, hlen⟩ := hF.owns h
  obtain ⟨A', n', c', hv, hn', hnc, hcm, hA⟩ := h.form
  injection hv with e1 e2 e3
  subst e1 e2 e3
  cases A with
  | none =>
    obtain rfl : c = 0 := hA rfl
    obtain rfl : n = 0 := by omega
    obtain rfl : k = 0 := by omega
    have : xs = [] := List.length_eq_zero_iff.1 hn'.symm
    subst this
    exact h
  | some a =>
    obtain ⟨es, he, ho, hfp⟩ := h
    rcases ho.2 with ⟨h1, _⟩ | ⟨g, cap, cur, h1, _⟩
    · cases h1
    injection h1 with h1 _ _
    injection h1 with h1
    subst h1
    have h : SlOwn E e w xs (.slice (some ⟨g, 0, none⟩) n c) fp := ⟨es, he, ho, hfp⟩
    obtain ⟨cur, hb, hcl, ht, hnx, _, _, rfl⟩ := hF.blk h
    refine hF.of_blk hb hcl ?_ (by rw [List.length_take]; omega) (by omega) hcm (fun x hx => hown x (List.mem_of_mem_take hx) w)
    rw [Mm.flatMap_take (s := E.size) k hlen, ← ht, List.take_take, Nat.min_eq_left (Nat.mul_le_mul_right _ hk)]
end Mm
def Mm.encEntry (x : Entry) : List Value := [.int .i64 x.Epoch, .string x.Text]
theorem Mm.flatN_entry : Mm.FlatN rEntry Mm.encEntry := ⟨by decide, fun h => by
  obtain ⟨rfl, h1, rfl⟩ := rEntry_own h
  exact ⟨rfl, rfl, fun w' => rEntry_own_mk h1⟩⟩
theorem Mm.flatA_entry : Mm.Flat rEntry Mm.encEntry := ⟨fun h => (rEntry_at h).1, fun h _ => rEntry_own_mk (rEntry_at h).2⟩
theorem Try.infoEntry : (Try.prog.info? 111).map (fun i => (i.zero, i.size, i.bytes)) = some (some (.agg #[.int .i64 0, .string ⟨#[]⟩]), 2, 24) := by kernel_rfl
theorem Pl.fetchL_some {a b : List Entry} {x : Entry} (h : b[Pl.ffind a b]? = some x) : Pl.fetchL a b = a.take (Pl.ffind a b) ++ [x] := by unfold Pl.fetchL; rw [h]; rfl
theorem Pl.fetchL_none {a b : List Entry} (h : b.length ≤ Pl.ffind a b) : Pl.fetchL a b = a.take (Pl.ffind a b) := by unfold Pl.fetchL; rw [List.getElem?_eq_none h]; simp
set_option maxRecDepth 100000 in
set_option maxHeartbeats 2000000 in
theorem fetch_c (r : Repl) (k : Int) (g : Nat) (fp : List Nat) (w : World) (h : (Mm.tptr rRepl 31 g r fp).holds w) (hnd : (g :: fp).Nodup) (hw : Pl.RW r) (k0 : 0 ≤ k) (k1 : k < r.Logs.length) (_hkl : k ≠ r.Leader) :
    Calls Try.prog 87 #[.pointer (some ⟨g, 0, none⟩), .int .i64 k] w fun e w' => e = .returned (.tuple #[]) ∧ ∃ fp', Mm.Left (g :: fp) w w' (Mm.tptr rRepl 31 g (Pl.rfetch r k) fp') := by
  obtain ⟨A0, n0, c0, A1, n1, c1, A2, n2, c2, A3, n3, c3, f0, f1, f2, f3, rfl, i2, i3, hs⟩ := open_Repl (Mm.SepF.one _ w h hnd)
  have hn0 : n0 = r.Logs.length := by obtain ⟨A', n', c', hv, h1, _⟩ := (hs.sl 1 rfl).form; injection hv with _ h2 _; omega
  have l0 : 0 ≤ r.Leader := hw.lead.1
  have l1 : r.Leader < n0 := by have := hw.lead.2; omega
  have k1' : k < n0 := by omega
  obtain ⟨g0, rfl, -, -⟩ := Mm.sl_addr (hs.sl 1 rfl) (by have := hw.n1; omega)
  have HS := Lib.hid hs
  have HW := Lib.hid hw
  have HN0 := Lib.hid hn0
  have HI := Lib.hid (And.intro i2 i3)
  have ha := hw.ok k0 k1
  have hb := hw.ok hw.lead.1 hw.lead.2
  have HA := Lib.hid ha
  have HBO := Lib.hid hb
  have hwk := (hs.sl 1 rfl).weak (hs.sl 1 rfl).olt
  obtain ⟨AK, nK, cK, _, hlk, ek⟩ := log_at' hwk k0 k1'
  obtain ⟨AL, nL, cL, _, hlL, eL⟩ := log_at' hwk l0 l1
  have HLK := Lib.hid hlk
  have HLL := Lib.hid hlL
  have hnK : nK ≤ 40 := by rw [← hlk.1]; exact ha.len
  have hnL : nL ≤ 40 := by rw [← hlL.1]; exact hb.len
  have d0 := hs.cell (k := 0) 0 rfl rfl
  have d2 := hs.cell (k := 2) 0 rfl rfl
  simp only [Nat.zero_add] at ek eL
  have HEK := Lib.hid ek
  obtain ⟨i0, hi, hz0, hz1, hz2⟩ := info_parts Try.infoEntry
  clear h hs hnd hw hn0 i2 i3 hwk hlk hlL ha hb
  go_enter Try.func87, Try.ntmps87
  go_wp2
  refine wp_region_und (by kernel_rfl) (by kernel_rfl) ?_
  repeat (go_big_quiet_step ((first | fail)))
  refine wpQuiet_nil ?_
  intro X hX
  have HS1 := Lib.hid (HS.out.step hX)
  have R1 := Lib.hid (HLK.out.keep (w' := X) fun b hb => hX.block b hb)
  have R2 := Lib.hid (HLL.out.keep (w' := X) fun b hb => hX.block b hb)
  have hxs := hX.size
  clear d0 d2 ek eL
  have CS := startsOf_c (Pl.logAt r r.Leader) AL nL cL X w.heap.size R2.out (by omega) (by omega)
  go_upto_region 2 with first
    | (go_at_call 98; (with_reducible refine CS.mono ?_); clear CS; rintro e w1 ⟨AS, nS, cS, fpS, rfl, hoS, hndS, hnewS, hbS⟩; (have HS2 := Lib.hid (HS1.out.step hbS)); (have hz1' := hbS.size); (have CF := findPart_c (Pl.logAt r k) (Pl.logAt r r.Leader) AK nK cK AS nS cS w1 w1.heap.size ((R1.out.keep (w' := w1) fun b hb => hbS.block b (by omega)).more (by omega)) (hoS.weak hoS.olt) (Nat.le_refl _) (by omega) HA.out.ris HBO.out.ris (by have := HBO.out.len; omega)); (rw [R2.out.1] at CF); clear hoS hndS hnewS)
    | (go_at_call 115; (with_reducible refine CF.mono ?_); clear CF; rintro e w2 ⟨q, rfl, hb2⟩; (have HS3 := Lib.hid (HS2.out.step hb2)); (have R3 := Lib.hid (R2.out.keep (w' := w2) fun b hb => (hb2.block b (by omega)).trans (hbS.block b (by omega)))))
  have hpl := Pl.ffind_le (Pl.logAt r k) (Pl.logAt r r.Leader)
  rw [R1.out.1, R2.out.1] at hpl
  obtain ⟨p, hp⟩ : ∃ p, Pl.ffind (Pl.logAt r k) (Pl.logAt r r.Leader) = p := ⟨_, rfl⟩
  have HP := Lib.hid hp
  have HXK := Lib.hid (HW.out.at_ k0 k1)
  obtain ⟨A, m, d, fx, e0, hm, ho, hfx, hgx, hap, -, hnext⟩ := HS3.out.openIn 1 rfl HXK.out
  have hek : w2.cell? ⟨g0, k.toNat, none⟩ = some (.slice AK nK cK) := below_some hb2 (below_some hbS (below_some hX HEK.out))
  rw [e0] at hek
  injection hek with hek
  injection hek with q1 q2 q3
  subst q1 q2 q3
  have HNX := Lib.hid hnext
  have HO := Lib.hid ho
  have HFX := Lib.hid hfx
  have hnk0 : k.toNat < n0 := by omega
  have hcap : m ≤ d ∧ d ≤ maxLen := by obtain ⟨A', n', c', hv, h1, h2, h3, _⟩ := ho.form; injection hv with _ h4 h5; omega
  unfold maxLen at hcap
  rw [hp] at hpl ⊢
  clear hm hnext ho hap hfx e0 hp hbS hb2
  have f1 : (p : Int) ≤ (m : Nat) := by omega
  have f2 : (0 : Int) ≤ (p : Nat) := by omega
  have f3 : ((p : Nat) : Int).toNat = p := by omega
  have HH := Lib.hid (Mm.FlatN.head Mm.flatN_entry HO.out (show p ≤ m by omega))
  by_cases hlt : p < nL
  · obtain ⟨x, b, off, hx, rfl, hb, j1, j2, e3, e4⟩ := rEntry_get R3.out hlt
    have HF : Hid (Pl.fetchL (Pl.logAt r k) (Pl.logAt r r.Leader) = (Pl.logAt r k).take p ++ [x]) := by
      have h5 := Pl.fetchL_some (a := Pl.logAt r k) (b := Pl.logAt r r.Leader) (x := x) (by rw [HP.out]; exact hx)
      rw [HP.out] at h5
      exact Lib.hid h5
    have HXI := Lib.hid (And.intro j1 j2)
    have HLP : Hid (((Pl.logAt r k).take p).length = p) := Lib.hid (by rw [List.length_take, R1.out.1]; omega)
    have HG := Lib.hid (Mm.SepF.one (Mm.tsl rEntry 111 ((Pl.logAt r k).take p) (.slice A p d) fx) w2 HH.out HFX.out)
    have f4 : decide (p < nL) = true := by simpa using hlt
    clear hx j1 j2
    go_upto_region 5 with (at_builtin; refine Mm.app_list (x := x) HG.out 0 rfl rfl (.tmp 41) (.tmp 46) 29 rfl i0 _ 24 Try.underlying29 hi hz0 hz1 hz2 rfl (by decide) rfl rfl (fun W => rEntry_own_mk HXI.out) HLP.out (by unfold maxLen; omega) (by omega) ?_; intro g2 cap w4 fp4 hs4; (have HS4 := Lib.hid hs4); clear hs4)
    obtain ⟨z0, z1, z2, fp5, z3⟩ := HNX.out w4 _ _ _ _ _ (show Mm.SepF fx w2 w4 [Mm.tsl rEntry 111 ((Pl.logAt r k).take p ++ [x]) (.slice (some ⟨g2, 0, none⟩) (p + 1) cap) fp4] from HS4.out)
    have hbk : Mm.Blk w4 g 31 _ := z2 0 _ (by decide) rfl
    have d0 := hbk.cell (i := 0) rfl
    have HZ := Lib.hid z3
    clear z2 z3 hbk
    go_wp2
    go_end0
    rw [← HF.out] at HZ
    exact ⟨rfl, _, (shut_Repl (x := Pl.rfetch r k) HZ.out HI.out.1 HI.out.2).left⟩
  · have HF : Hid (Pl.fetchL (Pl.logAt r k) (Pl.logAt r r.Leader) = (Pl.logAt r k).take p) := by
      have h5 := Pl.fetchL_none (a := Pl.logAt r k) (b := Pl.logAt r r.Leader) (by rw [HP.out, R2.out.1]; omega)
      rw [HP.out] at h5
      exact Lib.hid h5
    have f4 : decide (p < nL) = false := by simpa using hlt
    have HG := Lib.hid (Mm.SepF.one (Mm.tsl rEntry 111 ((Pl.logAt r k).take p) (.slice A p d) fx) w2 HH.out HFX.out)
    go_upto_region 5 with fail
    obtain ⟨z0, z1, z2, fp5, z3⟩ := HNX.out w2 _ _ _ _ _ HG.out
    have hbk : Mm.Blk w2 g 31 _ := z2 0 _ (by decide) rfl
    have d0 := hbk.cell (i := 0) rfl
    have HZ := Lib.hid z3
    clear z2 z3 hbk
    go_wp2
    go_end0
    rw [← HF.out] at HZ
    exact ⟨rfl, _, (shut_Repl (x := Pl.rfetch r k) HZ.out HI.out.1 HI.out.2).left⟩
end Go.Proofs.Ytihendiakgfpcaa

/-
  Contracts: slices.Clone where the elements lead nowhere. No conditions.
-/
namespace Go.Proofs.Ytihendiakgfpcaa
open Go.RowKit
theorem Try.info_clInt : (Try.prog.info? 3).map (fun i => (i.zero, i.size, i.bytes)) = some (some (.int .i64 0), 1, 8) := by kernel_rfl
set_option maxHeartbeats 1000000 in
theorem clInt_c (l : List Int) (A : Option Addr) (n c : Nat) (w : World) (B : Nat) (hl : Mm.SlAt Mm.int w B l A n c) (hn : n ≤ 1048576) :
    Calls Try.prog 103 #[.slice A n c] w (Mm.NewSl Mm.int 3 w l) := by
  have hlen := Lib.hid hl.1
  have hcap := hl.2.1
  have hq : ∀ (w : World) (a : Option Addr) (n c n' c' : Nat), (binOp .eql 28 (.slice a n c) (.slice none n' c')).run Try.prog w = .ok (.bool a.isNone) w := fun w a n c n' c' => Lib.run_eql_slice_nil w _ _ a n c n' c' Try.underlying28
  cases A with
  | none =>
    have hc : c = 0 := hl.2.2.2.1 rfl
    have hl0 : l = [] := List.length_eq_zero_iff.1 (by rw [hlen.out]; omega)
    subst hl0
    clear hl
    go_enter Try.func103, Try.ntmps103
    go_wp2
    go_ret
    exact (Mm.Acc.nil (Below.refl _ _)).newsl
  | some a =>
    have HC := Lib.hid (Mm.flat_cells' (E := Mm.int) (enc := (fun x : Int => ([.int .i64 x] : List Value))) (fun x cs h => h.1) hl)
    have HLN := Lib.hid (Mm.flat_len (E := Mm.int) (enc := (fun x : Int => ([.int .i64 x] : List Value))) (fun x cs h => h.1) hl)
    have HOK : Hid (∀ (w' : World) x, x ∈ l → (Mm.int).own w' x ((fun x : Int => ([.int .i64 x] : List Value)) x) []) := fun w' x hx => by
      obtain ⟨i, hi, rfl⟩ := List.mem_iff_getElem.1 hx
      obtain ⟨y, b, off, cs, hy, _, _, ha, _⟩ := hl.get (k := i) (by rw [← hlen.out]; exact hi)
      rw [List.getElem?_eq_getElem hi] at hy
      injection hy with hy
      subst hy
      exact ⟨rfl, ha.2, rfl⟩
    have H1 : Hid (∀ u : Value, u ∈ l.flatMap (fun x : Int => ([.int .i64 x] : List Value)) → u.oneCell' = true) := fun u hu => by
      obtain ⟨x, hx, hu⟩ := List.mem_flatMap.1 hu
      exact Mm.int.one (HOK.out w x hx) u hu
    clear hl
    obtain ⟨i0, hi, hz0, hz1, hz2⟩ := info_parts Try.info_clInt
    go_enter Try.func103, Try.ntmps103
    go_wp2_with (at_builtin; refine wpList_append_own_at _ rfl _ _ 28 rfl w.heap.size 3 i0 (.int .i64 0) 1 8 Try.underlying28 hi hz0 hz1 hz2 rfl (by decide) _ _ _ rfl (World.ownsRow_made w #[] 0 (Nat.le_refl _) (Nat.zero_le _) rfl) a n c (l.flatMap (fun x : Int => ([.int .i64 x] : List Value))) rfl HLN.out (fun j u hj => Lib.cell?_alloc_some _ (HC.out j u hj)) H1.out (by unfold maxLen; omega) (by omega) (by simp) ?_; intro v' w1 hown hgrow hnil hat)
    have HA := Lib.hid (Mm.clone_post (E := Mm.int) (e := 3) (Nat.zero_add _) (List.nil_append _) hown hgrow (fun x hx => HOK.out _ x hx) hlen.out)
    clear hown hgrow hat hnil
    go_wp2
    go_ret
    exact HA.out.newsl
end Go.Proofs.Ytihendiakgfpcaa

/-
  Contracts: the program's step of a replication: what begins and what ends it; a fetch (chapter 9). No conditions beyond those named.
-/
namespace Go.Proofs.Ytihendiakgfpcaa
open Go.RowKit
attribute [local go_sem] und_cell cha_cell World.cell?_alloc_some
theorem Try.info_clEnt : (Try.prog.info? 111).map (fun i => (i.zero, i.size, i.bytes)) = some (some (.agg #[.int .i64 0, .string ⟨#[]⟩]), 2, 24) := by kernel_rfl
set_option maxRecDepth 100000 in
set_option maxHeartbeats 1000000 in
theorem clEnt_c (l : List Entry) (A : Option Addr) (n c : Nat) (w : World) (B : Nat) (hl : Mm.SlAt rEntry w B l A n c) (hn : n ≤ 1048576) :
    Calls Try.prog 90 #[.slice A n c] w (Mm.NewSl rEntry 111 w l) := by
  have hlen := Lib.hid hl.1
  have hcap := hl.2.1
  have hq : ∀ (w : World) (a : Option Addr) (n c n' c' : Nat), (binOp .eql 29 (.slice a n c) (.slice none n' c')).run Try.prog w = .ok (.bool a.isNone) w := fun w a n c n' c' => Lib.run_eql_slice_nil w _ _ a n c n' c' Try.underlying29
  cases A with
  | none =>
    have hc : c = 0 := hl.2.2.2.1 rfl
    have hl0 : l = [] := List.length_eq_zero_iff.1 (by rw [hlen.out]; omega)
    subst hl0
    clear hl
    go_enter Try.func90, Try.ntmps90
    go_wp2
    go_ret
    exact (Mm.Acc.nil (Below.refl _ _)).newsl
  | some a =>
    have HC := Lib.hid (Mm.flat_cells' (E := rEntry) (enc := Mm.encEntry) (fun x cs h => (Mm.flatA_entry).at_ h) hl)
    have HLN := Lib.hid (Mm.flat_len (E := rEntry) (enc := Mm.encEntry) (fun x cs h => (Mm.flatA_entry).at_ h) hl)
    have HOK : Hid (∀ (w' : World) x, x ∈ l → (rEntry).own w' x ((Mm.encEntry) x) []) := fun w' x hx => by
      obtain ⟨i, hi, rfl⟩ := List.mem_iff_getElem.1 hx
      obtain ⟨y, b, off, cs, hy, _, _, ha, _⟩ := hl.get (k := i) (by rw [← hlen.out]; exact hi)
      rw [List.getElem?_eq_getElem hi] at hy
      injection hy with hy
      subst hy
      exact (Mm.flatA_entry).own ha w'
    have H1 : Hid (∀ u : Value, u ∈ l.flatMap Mm.encEntry → u.oneCell' = true) := fun u hu => by
      obtain ⟨x, hx, hu⟩ := List.mem_flatMap.1 hu
      exact (rEntry).one (HOK.out w x hx) u hu
    clear hl
    obtain ⟨i0, hi, hz0, hz1, hz2⟩ := info_parts Try.info_clEnt
    go_enter Try.func90, Try.ntmps90
    go_wp2_with (at_builtin; refine wpList_append_own_at _ rfl _ _ 29 rfl w.heap.size 111 i0 (.agg #[.int .i64 0, .string ⟨#[]⟩]) 2 24 Try.underlying29 hi hz0 hz1 hz2 rfl (by decide) _ _ _ rfl (World.ownsRow_made w #[] 0 (Nat.le_refl _) (Nat.zero_le _) rfl) a n c (l.flatMap Mm.encEntry) rfl HLN.out (fun j u hj => Lib.cell?_alloc_some _ (HC.out j u hj)) H1.out (by unfold maxLen; omega) (by omega) (by simp) ?_; intro v' w1 hown hgrow hnil hat)
    have HA := Lib.hid (Mm.clone_post (E := rEntry) (e := 111) (Nat.zero_add _) (List.nil_append _) hown hgrow (fun x hx => HOK.out _ x hx) hlen.out)
    clear hown hgrow hat hnil
    go_wp2
    go_ret
    exact HA.out.newsl
theorem ba_nil {x : ByteArray} (h : x.size = 0) : x = ⟨#[]⟩ := by
  cases x with
  | mk d => congr; exact Array.eq_empty_of_size_eq_zero h
/-- what a step of the program leaves -/
def RStepAns (g : Nat) (fp : List Nat) (w : World) (q : Repl × Bool) (e : Ending) (w' : World) : Prop :=
  e = .returned (.bool q.2) ∧ ∃ fp', Mm.Left (g :: fp) w w' (Mm.tptr rRepl 31 g q.1 fp')
theorem Pl.rstep_no' {r : Repl} {s : ReplStep} (h : rdo r s = (r, false)) : rstep r s = (r, false) := by unfold rstep; rw [h]; rfl
theorem Pl.rstep_yes {r x : Repl} {s : ReplStep} (h : rdo r s = (x, true)) : rstep r s = (rcert x, true) := by unfold rstep; rw [h]; rfl
theorem Pl.rcert_lt {x : Repl} (h : x.Certain.length < certain x) : rcert x = { x with Certain := (logAt x x.Leader).take (certain x) } := by unfold rcert; rw [if_pos h]
theorem Pl.rcert_ge {x : Repl} (h : ¬ x.Certain.length < certain x) : rcert x = x := by unfold rcert; rw [if_neg h]
theorem Pl.certain_le (x : Repl) : certain x ≤ (logAt x x.Leader).length := (certF_le x x.InSync _).1
theorem Pl.fetchL_len {a b : List Entry} (hb : b.length ≤ 40) : (fetchL a b).length ≤ 40 := by
  unfold fetchL
  have h := ffind_le a b
  rw [List.length_append, List.length_take]
  cases hx : b[ffind a b]? with
  | none => simp; omega
  | some x =>
    have := (List.getElem?_eq_some_iff.1 hx).1
    simp; omega
theorem Pl.RS.fetch {r : Repl} (h : RS r) (_hw : RW r) {k : Int} (_h0 : 0 ≤ k) (_h1 : k < r.Logs.length) : RS (rfetch r k) := by
  refine ⟨by simpa [rfetch] using h.n5, by simpa [rfetch] using h.lead, h.sync5, by simpa [rfetch] using h.syncIn, h.leadIn, fun j l hl => ?_⟩
  rcases get_set_cases hl with ⟨_, rfl, _⟩ | ⟨_, hl⟩
  · exact fetchL_len (h.len' _)
  · exact h.len j l hl
/-- what is told of the state behind the switch -/
structure RCtx (g gs : Nat) (F : List Nat) (w X : World) (x : Repl) (st : List Value) (fp : List Nat) : Prop where
  sep : Mm.SepF F w X [Mm.tblk gs 53 st, Mm.tptr rRepl 31 g x fp]
  rs : Pl.RS x
end Go.Proofs.Ytihendiakgfpcaa

/-
  Contracts: the program's step of a replication: a fetch (chapter 9). No conditions beyond those named.
-/
namespace Go.Proofs.Ytihendiakgfpcaa
open Go.RowKit
attribute [local go_sem] und_cell cha_cell World.cell?_alloc_some
set_option maxRecDepth 100000 in
set_option maxHeartbeats 4000000 in
theorem stepFetch_c (r : Repl) (nd : Int) (g : Nat) (fp : List Nat) (w : World) (h : (Mm.tptr rRepl 31 g r fp).holds w) (hnd : (g :: fp).Nodup) (hw : Pl.RW r) (k0 : 0 ≤ nd) (k1 : nd < r.Logs.length) (_hI : Mm.I64 nd) :
    Calls Try.prog 45 #[.pointer (some ⟨g, 0, none⟩), .agg #[.int .i64 2, .int .i64 nd, .string ⟨#[]⟩]] w (RStepAns g fp w (Pl.rstep r ⟨2, nd, ⟨#[]⟩⟩)) := by
  obtain ⟨A0, n0, c0, A1, n1, c1, A2, n2, c2, A3, n3, c3, f0, f1, f2, f3, rfl, i2, i3, hs⟩ := open_Repl (Mm.SepF.one _ w h hnd)
  have hn0 : n0 = r.Logs.length := by obtain ⟨A', n', c', hv, h1, _⟩ := (hs.sl 1 rfl).form; injection hv with _ h2 _; omega
  have hn1 : n1 = r.Logs.length := by obtain ⟨A', n', c', hv, h1, _⟩ := (hs.sl 2 rfl).form; injection hv with _ h2 _; have := hw.down; omega
  have hn2 : n2 = r.InSync.length := by obtain ⟨A', n', c', hv, h1, _⟩ := (hs.sl 3 rfl).form; injection hv with _ h2 _; omega
  have hsn5 := hw.sync5
  have hp5 := hw.n5
  have hp1 := hw.n1
  have l0 : 0 ≤ r.Leader := hw.lead.1
  have l1 : r.Leader < n1 := by have := hw.lead.2; omega
  obtain ⟨g1, rfl, -, -⟩ := Mm.sl_addr (hs.sl 2 rfl) (by have := hw.down; omega)
  have HI := Lib.hid (And.intro i2 i3)
  have HW := Lib.hid hw
  have HDL : Hid (r.Down[r.Leader.toNat]? = some (Pl.downAt r r.Leader)) := Lib.hid (hw.dat l0 hw.lead.2)
  obtain ⟨gs, hgs⟩ : ∃ gs, w.heap.size = gs := ⟨_, rfl⟩
  have HDN : Hid (r.Down[nd.toNat]? = some (Pl.downAt r nd)) := Lib.hid (hw.dat k0 k1)
  obtain ⟨dn, hdn⟩ : ∃ dn, Pl.downAt r nd = dn := ⟨_, rfl⟩
  obtain ⟨dl, hdl⟩ : ∃ dl, Pl.downAt r r.Leader = dl := ⟨_, rfl⟩
  rw [hdn] at HDN
  rw [hdl] at HDL
  have HED := Lib.hid (And.intro hdl hdn)
  clear hdl hdn
  obtain ⟨W0, hW0⟩ : ∃ W0, w.alloc (.cells #[.int .i64 2, .int .i64 nd, .string ⟨#[]⟩] 53) = W0 := ⟨_, rfl⟩
  have HS := Lib.hid ((hs.alloc' hgs 53 [.int .i64 2, .int .i64 nd, .string ⟨#[]⟩]).atW hW0)
  have hn01 : n1 = n0 := by omega
  have HN := Lib.hid (And.intro hn0 (And.intro hn2 hn01))
  have k1' : nd < n0 := by omega
  have k1'' : nd < n1 := by omega
  have hn05 : n0 ≤ 5 := by omega
  have hn25 : n2 ≤ 5 := by omega
  have fw : IntKind.i64.wrap ((n0 : Int) - 1) = (n0 : Int) - 1 := IntWalk.i64_in _ (by omega)
  have hwi : Pl.isIn nd 0 ((n0 : Int) - 1) = true := Pl.isIn_mk k0 (by omega)
  have CW := fun z : Und W0 => und_same z (within_c nd 0 ((n0 : Int) - 1) (und W0 z))
  rw [hwi] at CW
  clear h hs hnd hw hn0 hn1 hn2 i2 i3 hn01 k1
  have b0 := HS.out.cell (k := 0) 0 rfl rfl
  have b1 := HS.out.cell (k := 1) 0 rfl rfl
  have b2 := HS.out.cell (k := 2) 0 rfl rfl
  have d0 := HS.out.cell (k := 0) 1 rfl rfl
  have d1 := HS.out.cell (k := 1) 1 rfl rfl
  have d2 := HS.out.cell (k := 2) 1 rfl rfl
  have d3 := HS.out.cell (k := 3) 1 rfl rfl
  have d4 := HS.out.cell (k := 4) 1 rfl rfl
  have el := bool_ocell (HS.out.sl 3 rfl) (HS.out.ndat (i := 3) rfl) HDL.out
  have en := bool_ocell (HS.out.sl 3 rfl) (HS.out.ndat (i := 3) rfl) HDN.out
  go_enter Try.func45, Try.ntmps45
  go_wp2
  clear hW0
  refine wp_region_und (by kernel_rfl) (by kernel_rfl) ?_
  repeat (go_big_quiet_step ((first | (go_at_call 43; with_reducible exact CW _))))
  refine wpQuiet_nil ?_
  intro X hX
  clear CW
  have HS1 := Lib.hid (HS.out.step hX)
  clear b0 b1 b2 d0 d1 d2 d3 d4 el en
  obtain ⟨X1, rfl⟩ : ∃ q : World, q = X := ⟨_, rfl⟩
  have b0 := HS1.out.cell (k := 0) 0 rfl rfl
  have b1 := HS1.out.cell (k := 1) 0 rfl rfl
  have b2 := HS1.out.cell (k := 2) 0 rfl rfl
  have d0 := HS1.out.cell (k := 0) 1 rfl rfl
  have d1 := HS1.out.cell (k := 1) 1 rfl rfl
  have d2 := HS1.out.cell (k := 2) 1 rfl rfl
  have d3 := HS1.out.cell (k := 3) 1 rfl rfl
  have d4 := HS1.out.cell (k := 4) 1 rfl rfl
  have el := bool_ocell (HS1.out.sl 3 rfl) (HS1.out.ndat (i := 3) rfl) HDL.out
  have en := bool_ocell (HS1.out.sl 3 rfl) (HS1.out.ndat (i := 3) rfl) HDN.out
  clear hX HS
  have CB := fun z : Und X1 => und_same z (bsInt_c r.InSync nd A2 n2 c2 (und X1 z) X1.heap.size (((HS1.out.sl 4 rfl).weak (HS1.out.sl 4 rfl).olt).und (Nat.le_refl _) z) HW.out.sync (by omega))
  obtain ⟨ip, hip⟩ : ∃ ip, Pl.ipos r.InSync nd = ip := ⟨_, rfl⟩
  obtain ⟨ii, hii⟩ : ∃ ii, Pl.hasI r.InSync nd = ii := ⟨_, rfl⟩
  rw [hip, hii] at CB
  have HIP := Lib.hid hip
  have HII := Lib.hid hii
  clear hip hii fw hwi
  go_wp2
  refine wp_region_und (by kernel_rfl) (by kernel_rfl) ?_
  repeat (go_big_quiet_step ((first | (go_at_call 85; with_reducible exact CB _))))
  refine wpQuiet_nil ?_
  intro X hX
  clear CB
  have HS2 := Lib.hid (HS1.out.step hX)
  clear b0 b1 b2 d0 d1 d2 d3 d4 el en
  obtain ⟨X2, rfl⟩ : ∃ q : World, q = X := ⟨_, rfl⟩
  have b0 := HS2.out.cell (k := 0) 0 rfl rfl
  have b1 := HS2.out.cell (k := 1) 0 rfl rfl
  have b2 := HS2.out.cell (k := 2) 0 rfl rfl
  have d0 := HS2.out.cell (k := 0) 1 rfl rfl
  have d1 := HS2.out.cell (k := 1) 1 rfl rfl
  have d2 := HS2.out.cell (k := 2) 1 rfl rfl
  have d3 := HS2.out.cell (k := 3) 1 rfl rfl
  have d4 := HS2.out.cell (k := 4) 1 rfl rfl
  have el := bool_ocell (HS2.out.sl 3 rfl) (HS2.out.ndat (i := 3) rfl) HDL.out
  have en := bool_ocell (HS2.out.sl 3 rfl) (HS2.out.ndat (i := 3) rfl) HDN.out
  clear hX HS1
  go_wp2
  refine wp_region_und (by kernel_rfl) (by kernel_rfl) ?_
  repeat (go_big_quiet_step ((first | fail)))
  refine wpQuiet_nil ?_
  intro X hX
  have HS3 := Lib.hid (HS2.out.step hX)
  clear b0 b1 b2 d0 d1 d2 d3 d4 el en
  obtain ⟨X3, rfl⟩ : ∃ q : World, q = X := ⟨_, rfl⟩
  have b0 := HS3.out.cell (k := 0) 0 rfl rfl
  have b1 := HS3.out.cell (k := 1) 0 rfl rfl
  have b2 := HS3.out.cell (k := 2) 0 rfl rfl
  have d0 := HS3.out.cell (k := 0) 1 rfl rfl
  have d1 := HS3.out.cell (k := 1) 1 rfl rfl
  have d2 := HS3.out.cell (k := 2) 1 rfl rfl
  have d3 := HS3.out.cell (k := 3) 1 rfl rfl
  have d4 := HS3.out.cell (k := 4) 1 rfl rfl
  have el := bool_ocell (HS3.out.sl 3 rfl) (HS3.out.ndat (i := 3) rfl) HDL.out
  have en := bool_ocell (HS3.out.sl 3 rfl) (HS3.out.ndat (i := 3) rfl) HDN.out
  clear hX HS2
  have bad : ¬ (nd ≠ r.Leader ∧ dl = false ∧ dn = false) → Pl.rstep r ⟨2, nd, ⟨#[]⟩⟩ = (r, false) := fun hh => Pl.rstep_no' (by
    unfold Pl.rdo
    dsimp only
    rw [if_neg (by omega), if_neg (by simp [ByteArray.size]; have := HN.out.1; omega), if_pos rfl, HED.out.1, HED.out.2, if_neg hh])
  have BAD := Lib.hid bad
  clear bad
  by_cases hnl : nd = r.Leader
  · have HF := Lib.hid (BAD.out (fun hh => hh.1 hnl))
    have f1 : (nd != r.Leader) = false := by simpa using hnl
    clear hnl
    go_wp2
    refine wp_region_und (by kernel_rfl) (by kernel_rfl) ?_
    repeat (go_big_quiet_step ((first | fail)))
    refine wpQuiet_nil ?_
    intro X hX
    have HS3' := Lib.hid (HS3.out.step hX)
    clear b0 b1 b2 d0 d1 d2 d3 d4 el en
    obtain ⟨X4, rfl⟩ : ∃ q : World, q = X := ⟨_, rfl⟩
    have b0 := HS3'.out.cell (k := 0) 0 rfl rfl
    have b1 := HS3'.out.cell (k := 1) 0 rfl rfl
    have b2 := HS3'.out.cell (k := 2) 0 rfl rfl
    have d0 := HS3'.out.cell (k := 0) 1 rfl rfl
    have d1 := HS3'.out.cell (k := 1) 1 rfl rfl
    have d2 := HS3'.out.cell (k := 2) 1 rfl rfl
    have d3 := HS3'.out.cell (k := 3) 1 rfl rfl
    have d4 := HS3'.out.cell (k := 4) 1 rfl rfl
    have el := bool_ocell (HS3'.out.sl 3 rfl) (HS3'.out.ndat (i := 3) rfl) HDL.out
    have en := bool_ocell (HS3'.out.sl 3 rfl) (HS3'.out.ndat (i := 3) rfl) HDN.out
    clear hX HS3
    have HS3 := HS3'
    clear HS3'
    obtain ⟨X3, rfl⟩ : ∃ q : World, q = X4 := ⟨_, rfl⟩
    go_wp2
    refine wp_region_und (by kernel_rfl) (by kernel_rfl) ?_
    repeat (go_big_quiet_step ((first | fail)))
    refine wpQuiet_nil ?_
    intro X hX
    have HS3' := Lib.hid (HS3.out.step hX)
    clear b0 b1 b2 d0 d1 d2 d3 d4 el en
    obtain ⟨X4, rfl⟩ : ∃ q : World, q = X := ⟨_, rfl⟩
    have b0 := HS3'.out.cell (k := 0) 0 rfl rfl
    have b1 := HS3'.out.cell (k := 1) 0 rfl rfl
    have b2 := HS3'.out.cell (k := 2) 0 rfl rfl
    have d0 := HS3'.out.cell (k := 0) 1 rfl rfl
    have d1 := HS3'.out.cell (k := 1) 1 rfl rfl
    have d2 := HS3'.out.cell (k := 2) 1 rfl rfl
    have d3 := HS3'.out.cell (k := 3) 1 rfl rfl
    have d4 := HS3'.out.cell (k := 4) 1 rfl rfl
    have el := bool_ocell (HS3'.out.sl 3 rfl) (HS3'.out.ndat (i := 3) rfl) HDL.out
    have en := bool_ocell (HS3'.out.sl 3 rfl) (HS3'.out.ndat (i := 3) rfl) HDN.out
    clear hX HS3
    have HS3 := HS3'
    clear HS3'
    obtain ⟨X3, rfl⟩ : ∃ q : World, q = X4 := ⟨_, rfl⟩
    go_wp2
    refine wp_region_und (by kernel_rfl) (by kernel_rfl) ?_
    repeat (go_big_quiet_step ((first | fail)))
    refine wpQuiet_nil ?_
    intro X hX
    have HS3' := Lib.hid (HS3.out.step hX)
    clear b0 b1 b2 d0 d1 d2 d3 d4 el en
    obtain ⟨X4, rfl⟩ : ∃ q : World, q = X := ⟨_, rfl⟩
    have b0 := HS3'.out.cell (k := 0) 0 rfl rfl
    have b1 := HS3'.out.cell (k := 1) 0 rfl rfl
    have b2 := HS3'.out.cell (k := 2) 0 rfl rfl
    have d0 := HS3'.out.cell (k := 0) 1 rfl rfl
    have d1 := HS3'.out.cell (k := 1) 1 rfl rfl
    have d2 := HS3'.out.cell (k := 2) 1 rfl rfl
    have d3 := HS3'.out.cell (k := 3) 1 rfl rfl
    have d4 := HS3'.out.cell (k := 4) 1 rfl rfl
    have el := bool_ocell (HS3'.out.sl 3 rfl) (HS3'.out.ndat (i := 3) rfl) HDL.out
    have en := bool_ocell (HS3'.out.sl 3 rfl) (HS3'.out.ndat (i := 3) rfl) HDN.out
    clear hX HS3
    have HS3 := HS3'
    clear HS3'
    obtain ⟨X3, rfl⟩ : ∃ q : World, q = X4 := ⟨_, rfl⟩
    go_wp2
    refine wp_region_und (by kernel_rfl) (by kernel_rfl) ?_
    repeat (go_big_quiet_step ((first | fail)))
    refine wpQuiet_nil ?_
    intro X hX
    have HS3' := Lib.hid (HS3.out.step hX)
    clear b0 b1 b2 d0 d1 d2 d3 d4 el en
    obtain ⟨X4, rfl⟩ : ∃ q : World, q = X := ⟨_, rfl⟩
    have b0 := HS3'.out.cell (k := 0) 0 rfl rfl
    have b1 := HS3'.out.cell (k := 1) 0 rfl rfl
    have b2 := HS3'.out.cell (k := 2) 0 rfl rfl
    have d0 := HS3'.out.cell (k := 0) 1 rfl rfl
    have d1 := HS3'.out.cell (k := 1) 1 rfl rfl
    have d2 := HS3'.out.cell (k := 2) 1 rfl rfl
    have d3 := HS3'.out.cell (k := 3) 1 rfl rfl
    have d4 := HS3'.out.cell (k := 4) 1 rfl rfl
    have el := bool_ocell (HS3'.out.sl 3 rfl) (HS3'.out.ndat (i := 3) rfl) HDL.out
    have en := bool_ocell (HS3'.out.sl 3 rfl) (HS3'.out.ndat (i := 3) rfl) HDN.out
    clear hX HS3
    have HS3 := HS3'
    clear HS3'
    obtain ⟨X3, rfl⟩ : ∃ q : World, q = X4 := ⟨_, rfl⟩
    go_wp2
    refine wp_region_und (by kernel_rfl) (by kernel_rfl) ?_
    repeat (go_big_quiet_step ((first | fail)))
    refine wpQuiet_nil ?_
    intro X hX
    have HS3' := Lib.hid (HS3.out.step hX)
    clear b0 b1 b2 d0 d1 d2 d3 d4 el en
    obtain ⟨X4, rfl⟩ : ∃ q : World, q = X := ⟨_, rfl⟩
    have b0 := HS3'.out.cell (k := 0) 0 rfl rfl
    have b1 := HS3'.out.cell (k := 1) 0 rfl rfl
    have b2 := HS3'.out.cell (k := 2) 0 rfl rfl
    have d0 := HS3'.out.cell (k := 0) 1 rfl rfl
    have d1 := HS3'.out.cell (k := 1) 1 rfl rfl
    have d2 := HS3'.out.cell (k := 2) 1 rfl rfl
    have d3 := HS3'.out.cell (k := 3) 1 rfl rfl
    have d4 := HS3'.out.cell (k := 4) 1 rfl rfl
    have el := bool_ocell (HS3'.out.sl 3 rfl) (HS3'.out.ndat (i := 3) rfl) HDL.out
    have en := bool_ocell (HS3'.out.sl 3 rfl) (HS3'.out.ndat (i := 3) rfl) HDN.out
    clear hX HS3
    have HS3 := HS3'
    clear HS3'
    obtain ⟨X3, rfl⟩ : ∃ q : World, q = X4 := ⟨_, rfl⟩
    go_wp2
    exact bodyPost_ret (v := .bool false) (by simp [results, Try.results45, go_sem]) rfl ⟨by rw [HF.out], _, by rw [HF.out]; exact (shut_Repl HS3.out.tail HI.out.1 HI.out.2).left⟩
  · have f1 : (nd != r.Leader) = true := by simpa using hnl
    cases dl with
    | true =>
      have HF := Lib.hid (BAD.out (fun hh => by cases hh.2.1))
      clear hnl
      go_wp2
      refine wp_region_und (by kernel_rfl) (by kernel_rfl) ?_
      repeat (go_big_quiet_step ((first | fail)))
      refine wpQuiet_nil ?_
      intro X hX
      have HS3' := Lib.hid (HS3.out.step hX)
      clear b0 b1 b2 d0 d1 d2 d3 d4 el en
      obtain ⟨X4, rfl⟩ : ∃ q : World, q = X := ⟨_, rfl⟩
      have b0 := HS3'.out.cell (k := 0) 0 rfl rfl
      have b1 := HS3'.out.cell (k := 1) 0 rfl rfl
      have b2 := HS3'.out.cell (k := 2) 0 rfl rfl
      have d0 := HS3'.out.cell (k := 0) 1 rfl rfl
      have d1 := HS3'.out.cell (k := 1) 1 rfl rfl
      have d2 := HS3'.out.cell (k := 2) 1 rfl rfl
      have d3 := HS3'.out.cell (k := 3) 1 rfl rfl
      have d4 := HS3'.out.cell (k := 4) 1 rfl rfl
      have el := bool_ocell (HS3'.out.sl 3 rfl) (HS3'.out.ndat (i := 3) rfl) HDL.out
      have en := bool_ocell (HS3'.out.sl 3 rfl) (HS3'.out.ndat (i := 3) rfl) HDN.out
      clear hX HS3
      have HS3 := HS3'
      clear HS3'
      obtain ⟨X3, rfl⟩ : ∃ q : World, q = X4 := ⟨_, rfl⟩
      go_wp2
      refine wp_region_und (by kernel_rfl) (by kernel_rfl) ?_
      repeat (go_big_quiet_step ((first | fail)))
      refine wpQuiet_nil ?_
      intro X hX
      have HS3' := Lib.hid (HS3.out.step hX)
      clear b0 b1 b2 d0 d1 d2 d3 d4 el en
      obtain ⟨X4, rfl⟩ : ∃ q : World, q = X := ⟨_, rfl⟩
      have b0 := HS3'.out.cell (k := 0) 0 rfl rfl
      have b1 := HS3'.out.cell (k := 1) 0 rfl rfl
      have b2 := HS3'.out.cell (k := 2) 0 rfl rfl
      have d0 := HS3'.out.cell (k := 0) 1 rfl rfl
      have d1 := HS3'.out.cell (k := 1) 1 rfl rfl
      have d2 := HS3'.out.cell (k := 2) 1 rfl rfl
      have d3 := HS3'.out.cell (k := 3) 1 rfl rfl
      have d4 := HS3'.out.cell (k := 4) 1 rfl rfl
      have el := bool_ocell (HS3'.out.sl 3 rfl) (HS3'.out.ndat (i := 3) rfl) HDL.out
      have en := bool_ocell (HS3'.out.sl 3 rfl) (HS3'.out.ndat (i := 3) rfl) HDN.out
      clear hX HS3
      have HS3 := HS3'
      clear HS3'
      obtain ⟨X3, rfl⟩ : ∃ q : World, q = X4 := ⟨_, rfl⟩
      go_wp2
      refine wp_region_und (by kernel_rfl) (by kernel_rfl) ?_
      repeat (go_big_quiet_step ((first | fail)))
      refine wpQuiet_nil ?_
      intro X hX
      have HS3' := Lib.hid (HS3.out.step hX)
      clear b0 b1 b2 d0 d1 d2 d3 d4 el en
      obtain ⟨X4, rfl⟩ : ∃ q : World, q = X := ⟨_, rfl⟩
      have b0 := HS3'.out.cell (k := 0) 0 rfl rfl
      have b1 := HS3'.out.cell (k := 1) 0 rfl rfl
      have b2 := HS3'.out.cell (k := 2) 0 rfl rfl
      have d0 := HS3'.out.cell (k := 0) 1 rfl rfl
      have d1 := HS3'.out.cell (k := 1) 1 rfl rfl
      have d2 := HS3'.out.cell (k := 2) 1 rfl rfl
      have d3 := HS3'.out.cell (k := 3) 1 rfl rfl
      have d4 := HS3'.out.cell (k := 4) 1 rfl rfl
      have el := bool_ocell (HS3'.out.sl 3 rfl) (HS3'.out.ndat (i := 3) rfl) HDL.out
      have en := bool_ocell (HS3'.out.sl 3 rfl) (HS3'.out.ndat (i := 3) rfl) HDN.out
      clear hX HS3
      have HS3 := HS3'
      clear HS3'
      obtain ⟨X3, rfl⟩ : ∃ q : World, q = X4 := ⟨_, rfl⟩
      go_wp2
      refine wp_region_und (by kernel_rfl) (by kernel_rfl) ?_
      repeat (go_big_quiet_step ((first | fail)))
      refine wpQuiet_nil ?_
      intro X hX
      have HS3' := Lib.hid (HS3.out.step hX)
      clear b0 b1 b2 d0 d1 d2 d3 d4 el en
      obtain ⟨X4, rfl⟩ : ∃ q : World, q = X := ⟨_, rfl⟩
      have b0 := HS3'.out.cell (k := 0) 0 rfl rfl
      have b1 := HS3'.out.cell (k := 1) 0 rfl rfl
      have b2 := HS3'.out.cell (k := 2) 0 rfl rfl
      have d0 := HS3'.out.cell (k := 0) 1 rfl rfl
      have d1 := HS3'.out.cell (k := 1) 1 rfl rfl
      have d2 := HS3'.out.cell (k := 2) 1 rfl rfl
      have d3 := HS3'.out.cell (k := 3) 1 rfl rfl
      have d4 := HS3'.out.cell (k := 4) 1 rfl rfl
      have el := bool_ocell (HS3'.out.sl 3 rfl) (HS3'.out.ndat (i := 3) rfl) HDL.out
      have en := bool_ocell (HS3'.out.sl 3 rfl) (HS3'.out.ndat (i := 3) rfl) HDN.out
      clear hX HS3
      have HS3 := HS3'
      clear HS3'
      obtain ⟨X3, rfl⟩ : ∃ q : World, q = X4 := ⟨_, rfl⟩
      go_wp2
      refine wp_region_und (by kernel_rfl) (by kernel_rfl) ?_
      repeat (go_big_quiet_step ((first | fail)))
      refine wpQuiet_nil ?_
      intro X hX
      have HS3' := Lib.hid (HS3.out.step hX)
      clear b0 b1 b2 d0 d1 d2 d3 d4 el en
      obtain ⟨X4, rfl⟩ : ∃ q : World, q = X := ⟨_, rfl⟩
      have b0 := HS3'.out.cell (k := 0) 0 rfl rfl
      have b1 := HS3'.out.cell (k := 1) 0 rfl rfl
      have b2 := HS3'.out.cell (k := 2) 0 rfl rfl
      have d0 := HS3'.out.cell (k := 0) 1 rfl rfl
      have d1 := HS3'.out.cell (k := 1) 1 rfl rfl
      have d2 := HS3'.out.cell (k := 2) 1 rfl rfl
      have d3 := HS3'.out.cell (k := 3) 1 rfl rfl
      have d4 := HS3'.out.cell (k := 4) 1 rfl rfl
      have el := bool_ocell (HS3'.out.sl 3 rfl) (HS3'.out.ndat (i := 3) rfl) HDL.out
      have en := bool_ocell (HS3'.out.sl 3 rfl) (HS3'.out.ndat (i := 3) rfl) HDN.out
      clear hX HS3
      have HS3 := HS3'
      clear HS3'
      obtain ⟨X3, rfl⟩ : ∃ q : World, q = X4 := ⟨_, rfl⟩
      go_wp2
      exact bodyPost_ret (v := .bool false) (by simp [results, Try.results45, go_sem]) rfl ⟨by rw [HF.out], _, by rw [HF.out]; exact (shut_Repl HS3.out.tail HI.out.1 HI.out.2).left⟩
    | false =>
      cases dn with
      | true =>
        have HF := Lib.hid (BAD.out (fun hh => by cases hh.2.2))
        clear hnl
        go_wp2
        refine wp_region_und (by kernel_rfl) (by kernel_rfl) ?_
        repeat (go_big_quiet_step ((first | fail)))
        refine wpQuiet_nil ?_
        intro X hX
        have HS3' := Lib.hid (HS3.out.step hX)
        clear b0 b1 b2 d0 d1 d2 d3 d4 el en
        obtain ⟨X4, rfl⟩ : ∃ q : World, q = X := ⟨_, rfl⟩
        have b0 := HS3'.out.cell (k := 0) 0 rfl rfl
        have b1 := HS3'.out.cell (k := 1) 0 rfl rfl
        have b2 := HS3'.out.cell (k := 2) 0 rfl rfl
        have d0 := HS3'.out.cell (k := 0) 1 rfl rfl
        have d1 := HS3'.out.cell (k := 1) 1 rfl rfl
        have d2 := HS3'.out.cell (k := 2) 1 rfl rfl
        have d3 := HS3'.out.cell (k := 3) 1 rfl rfl
        have d4 := HS3'.out.cell (k := 4) 1 rfl rfl
        have el := bool_ocell (HS3'.out.sl 3 rfl) (HS3'.out.ndat (i := 3) rfl) HDL.out
        have en := bool_ocell (HS3'.out.sl 3 rfl) (HS3'.out.ndat (i := 3) rfl) HDN.out
        clear hX HS3
        have HS3 := HS3'
        clear HS3'
        obtain ⟨X3, rfl⟩ : ∃ q : World, q = X4 := ⟨_, rfl⟩
        go_wp2
        refine wp_region_und (by kernel_rfl) (by kernel_rfl) ?_
        repeat (go_big_quiet_step ((first | fail)))
        refine wpQuiet_nil ?_
        intro X hX
        have HS3' := Lib.hid (HS3.out.step hX)
        clear b0 b1 b2 d0 d1 d2 d3 d4 el en
        obtain ⟨X4, rfl⟩ : ∃ q : World, q = X := ⟨_, rfl⟩
        have b0 := HS3'.out.cell (k := 0) 0 rfl rfl
        have b1 := HS3'.out.cell (k := 1) 0 rfl rfl
        have b2 := HS3'.out.cell (k := 2) 0 rfl rfl
        have d0 := HS3'.out.cell (k := 0) 1 rfl rfl
        have d1 := HS3'.out.cell (k := 1) 1 rfl rfl
        have d2 := HS3'.out.cell (k := 2) 1 rfl rfl
        have d3 := HS3'.out.cell (k := 3) 1 rfl rfl
        have d4 := HS3'.out.cell (k := 4) 1 rfl rfl
        have el := bool_ocell (HS3'.out.sl 3 rfl) (HS3'.out.ndat (i := 3) rfl) HDL.out
        have en := bool_ocell (HS3'.out.sl 3 rfl) (HS3'.out.ndat (i := 3) rfl) HDN.out
        clear hX HS3
        have HS3 := HS3'
        clear HS3'
        obtain ⟨X3, rfl⟩ : ∃ q : World, q = X4 := ⟨_, rfl⟩
        go_wp2
        refine wp_region_und (by kernel_rfl) (by kernel_rfl) ?_
        repeat (go_big_quiet_step ((first | fail)))
        refine wpQuiet_nil ?_
        intro X hX
        have HS3' := Lib.hid (HS3.out.step hX)
        clear b0 b1 b2 d0 d1 d2 d3 d4 el en
        obtain ⟨X4, rfl⟩ : ∃ q : World, q = X := ⟨_, rfl⟩
        have b0 := HS3'.out.cell (k := 0) 0 rfl rfl
        have b1 := HS3'.out.cell (k := 1) 0 rfl rfl
        have b2 := HS3'.out.cell (k := 2) 0 rfl rfl
        have d0 := HS3'.out.cell (k := 0) 1 rfl rfl
        have d1 := HS3'.out.cell (k := 1) 1 rfl rfl
        have d2 := HS3'.out.cell (k := 2) 1 rfl rfl
        have d3 := HS3'.out.cell (k := 3) 1 rfl rfl
        have d4 := HS3'.out.cell (k := 4) 1 rfl rfl
        have el := bool_ocell (HS3'.out.sl 3 rfl) (HS3'.out.ndat (i := 3) rfl) HDL.out
        have en := bool_ocell (HS3'.out.sl 3 rfl) (HS3'.out.ndat (i := 3) rfl) HDN.out
        clear hX HS3
        have HS3 := HS3'
        clear HS3'
        obtain ⟨X3, rfl⟩ : ∃ q : World, q = X4 := ⟨_, rfl⟩
        go_wp2
        refine wp_region_und (by kernel_rfl) (by kernel_rfl) ?_
        repeat (go_big_quiet_step ((first | fail)))
        refine wpQuiet_nil ?_
        intro X hX
        have HS3' := Lib.hid (HS3.out.step hX)
        clear b0 b1 b2 d0 d1 d2 d3 d4 el en
        obtain ⟨X4, rfl⟩ : ∃ q : World, q = X := ⟨_, rfl⟩
        have b0 := HS3'.out.cell (k := 0) 0 rfl rfl
        have b1 := HS3'.out.cell (k := 1) 0 rfl rfl
        have b2 := HS3'.out.cell (k := 2) 0 rfl rfl
        have d0 := HS3'.out.cell (k := 0) 1 rfl rfl
        have d1 := HS3'.out.cell (k := 1) 1 rfl rfl
        have d2 := HS3'.out.cell (k := 2) 1 rfl rfl
        have d3 := HS3'.out.cell (k := 3) 1 rfl rfl
        have d4 := HS3'.out.cell (k := 4) 1 rfl rfl
        have el := bool_ocell (HS3'.out.sl 3 rfl) (HS3'.out.ndat (i := 3) rfl) HDL.out
        have en := bool_ocell (HS3'.out.sl 3 rfl) (HS3'.out.ndat (i := 3) rfl) HDN.out
        clear hX HS3
        have HS3 := HS3'
        clear HS3'
        obtain ⟨X3, rfl⟩ : ∃ q : World, q = X4 := ⟨_, rfl⟩
        go_wp2
        refine wp_region_und (by kernel_rfl) (by kernel_rfl) ?_
        repeat (go_big_quiet_step ((first | fail)))
        refine wpQuiet_nil ?_
        intro X hX
        have HS3' := Lib.hid (HS3.out.step hX)
        clear b0 b1 b2 d0 d1 d2 d3 d4 el en
        obtain ⟨X4, rfl⟩ : ∃ q : World, q = X := ⟨_, rfl⟩
        have b0 := HS3'.out.cell (k := 0) 0 rfl rfl
        have b1 := HS3'.out.cell (k := 1) 0 rfl rfl
        have b2 := HS3'.out.cell (k := 2) 0 rfl rfl
        have d0 := HS3'.out.cell (k := 0) 1 rfl rfl
        have d1 := HS3'.out.cell (k := 1) 1 rfl rfl
        have d2 := HS3'.out.cell (k := 2) 1 rfl rfl
        have d3 := HS3'.out.cell (k := 3) 1 rfl rfl
        have d4 := HS3'.out.cell (k := 4) 1 rfl rfl
        have el := bool_ocell (HS3'.out.sl 3 rfl) (HS3'.out.ndat (i := 3) rfl) HDL.out
        have en := bool_ocell (HS3'.out.sl 3 rfl) (HS3'.out.ndat (i := 3) rfl) HDN.out
        clear hX HS3
        have HS3 := HS3'
        clear HS3'
        obtain ⟨X3, rfl⟩ : ∃ q : World, q = X4 := ⟨_, rfl⟩
        go_wp2
        exact bodyPost_ret (v := .bool false) (by simp [results, Try.results45, go_sem]) rfl ⟨by rw [HF.out], _, by rw [HF.out]; exact (shut_Repl HS3.out.tail HI.out.1 HI.out.2).left⟩
      | false =>
        have hdo : Pl.rdo r ⟨2, nd, ⟨#[]⟩⟩ = (Pl.rfetch r nd, true) := by
          unfold Pl.rdo
          dsimp only
          rw [if_neg (by omega), if_neg (by simp [ByteArray.size]; have := HN.out.1; omega), if_pos rfl, HED.out.1, HED.out.2, if_pos ⟨hnl, rfl, rfl⟩]
        have HC := Lib.hid (Pl.rstep_yes hdo)
        have hk1 : nd < r.Logs.length := by have := HN.out.1; omega
        have HRS : Hid (Pl.RS (Pl.rfetch r nd)) := Lib.hid (Pl.RS.fetch HW.out.rs HW.out k0 hk1)
        clear hdo
        go_wp2
        refine wp_region_und (by kernel_rfl) (by kernel_rfl) ?_
        repeat (go_big_quiet_step ((first | fail)))
        refine wpQuiet_nil ?_
        intro X hX
        have HS3' := Lib.hid (HS3.out.step hX)
        clear b0 b1 b2 d0 d1 d2 d3 d4 el en
        obtain ⟨X4, rfl⟩ : ∃ q : World, q = X := ⟨_, rfl⟩
        have b0 := HS3'.out.cell (k := 0) 0 rfl rfl
        have b1 := HS3'.out.cell (k := 1) 0 rfl rfl
        have b2 := HS3'.out.cell (k := 2) 0 rfl rfl
        have d0 := HS3'.out.cell (k := 0) 1 rfl rfl
        have d1 := HS3'.out.cell (k := 1) 1 rfl rfl
        have d2 := HS3'.out.cell (k := 2) 1 rfl rfl
        have d3 := HS3'.out.cell (k := 3) 1 rfl rfl
        have d4 := HS3'.out.cell (k := 4) 1 rfl rfl
        have el := bool_ocell (HS3'.out.sl 3 rfl) (HS3'.out.ndat (i := 3) rfl) HDL.out
        have en := bool_ocell (HS3'.out.sl 3 rfl) (HS3'.out.ndat (i := 3) rfl) HDN.out
        clear hX HS3
        have HS3 := HS3'
        clear HS3'
        obtain ⟨X3, rfl⟩ : ∃ q : World, q = X4 := ⟨_, rfl⟩
        have HT0 := Lib.hid (shut_Repl HS3.out.tail HI.out.1 HI.out.2)
        have CF := fetch_c r nd g _ X3 (HT0.out.at_ 0 rfl) (HT0.out.ndat (i := 0) rfl) HW.out k0 hk1 hnl
        go_upto_region 23 with (go_at_call 87; (with_reducible refine CF.mono ?_); clear CF; rintro e w6 ⟨rfl, fp6, hL⟩; (have HT := Lib.hid (HT0.out.call 0 rfl hL)); clear hL)
        clear HT0 HS3
        clear b0 b1 b2 d0 d1 d2 d3 d4 el en
        obtain ⟨x, hx⟩ : ∃ x, Pl.rfetch r nd = x := ⟨_, rfl⟩
        rw [hx] at HT HRS HC
        clear hx
        obtain ⟨csx, hbk, hown⟩ := HT.out.at_ 0 rfl
        have CC := certain_c x g csx w6 w6.heap.size hbk (rRepl.weak hown (rRepl.olt hown)) (Nat.le_refl _) HRS.out
        obtain ⟨cn, hcn⟩ : ∃ cn, Pl.certain x = cn := ⟨_, rfl⟩
        rw [hcn] at CC
        have HCN := Lib.hid hcn
        have hcl := Pl.certain_le x
        have hcl4 := HRS.out.len' x.Leader
        rw [hcn] at hcl
        clear hcn hbk hown
        go_upto_region 24 with (go_at_call 51; (with_reducible refine CC.mono ?_); clear CC; rintro e w7 ⟨rfl, hb7⟩; (have HT2 := Lib.hid (HT.out.step hb7)); clear hb7)
        clear HT
        obtain ⟨A0, n0, c0, A1, n1, c1, A2, n2, c2, A3, n3, c3, q0, q1, q2, q3, hfq, j2, j3, hq⟩ := open_Repl HT2.out
        have HJ := Lib.hid (And.intro j2 j3)
        have HQ := Lib.hid hq
        have hq3 : n3 = x.Certain.length := by obtain ⟨A', n', c', hv, h1, _⟩ := (hq.sl 4 rfl).form; injection hv with _ h2 _; omega
        have hq0 : n0 = x.Logs.length := by obtain ⟨A', n', c', hv, h1, _⟩ := (hq.sl 1 rfl).form; injection hv with _ h2 _; omega
        have HQ3 := Lib.hid hq3
        have hd0 := hq.cell (k := 0) 0 rfl rfl
        have hd2 := hq.cell (k := 2) 0 rfl rfl
        have hd5 := hq.cell (k := 5) 0 rfl rfl
        have ll0 := HRS.out.lead.1
        have ll1 : x.Leader < n0 := by have := HRS.out.lead.2; omega
        obtain ⟨g0', rfl, -, -⟩ := Mm.sl_addr (hq.sl 1 rfl) (by omega)
        obtain ⟨AL, nL, cL, _, hlL, eL⟩ := log_at' ((hq.sl 1 rfl).weak (hq.sl 1 rfl).olt) ll0 ll1
        simp only [Nat.zero_add] at eL
        have HLL := Lib.hid hlL
        have hnL : (Pl.logAt x x.Leader).length = nL := hlL.1
        have hnLc : nL ≤ cL ∧ cL ≤ 9223372036854775807 := by have h1 := hlL.2.1; have h2 := hlL.2.2.1; unfold maxLen at h2; omega
        rw [hnL] at hcl hcl4
        clear hq hq3 hq0 hfq j2 j3 hlL hnL HT2
        by_cases hct : n3 < cn
        · have HE : Hid (Pl.rstep r ⟨2,nd,⟨#[]⟩⟩ = ({ x with Certain := (Pl.logAt x x.Leader).take cn }, true)) := Lib.hid (by rw [HC.out, Pl.rcert_lt (by rw [HCN.out, ← HQ3.out]; exact hct), HCN.out])
          have f1 : (n3 : Int) < (cn : Nat) := by omega
          have f2 : (0 : Int) ≤ (cn : Nat) := by omega
          have f3 : ((cn : Nat) : Int).toNat = cn := by omega
          have f4 : (cn : Int) ≤ (nL : Nat) := by omega
          have f5 : (cn : Int) ≤ (cL : Nat) := by omega
          have f6 : cn ≤ cL := by omega
          have HTK := Lib.hid (HLL.out.take (show cn ≤ nL by omega))
          go_wp2
          refine Mm.wp_region_give 16 (fun i => match i with | 13 => some (Mm.gSl rEntry 111 ((Pl.logAt x x.Leader).take cn)) | _ => none) (fun _ => []) (fun _ => []) (F := []) (D := fun w' => ∃ z : Und w7, w' = und w7 z) (fun X us h => Mm.sep_und h) (by kernel_rfl) (by kernel_rfl) (by kernel_rfl) (Mm.SepF.startDrew _) ?_
          repeat (refine Mm.give_det (by rfl) (by rfl) (by rfl) (fun K hK => ?_); go_big_quiet_op; refine hK _ ?_; clear hK K)
          refine Mm.give_op0 301 (by rfl) rfl (by rfl) (by rfl) (by rfl) (by rfl) Mm.gSl_in (fun others X8 hX8 => ?_) ?_
          · go_wp2_with (go_at_call 90; (with_reducible refine (clEnt_c ((Pl.logAt x x.Leader).take cn) AL cn cL X8 w7.heap.size (HTK.out.keep (w' := X8) fun b hb => hX8.bel0.block b hb) (by omega)).mono ?_); rintro e w5 ⟨A', n', c', fp', rfl, ho, hnd', hnew, hb5⟩)
            exact Mm.gvq_sl hX8 hb5 ho hnd' hnew rfl rfl
          rintro v ds ⟨A', n', c', fp', rfl, rfl, hn'⟩
          simp only [Act.put, List.setIfInBounds_toArray, List.set_cons_succ, List.set_cons_zero]
          repeat (refine Mm.give_det (by rfl) (by rfl) (by rfl) (fun K hK => ?_); go_big_quiet_op; refine hK _ ?_; clear hK K)
          refine Mm.give_nil ?_
          rintro X4 hX4
          have HS4 := Lib.hid (HQ.out.join (us := [Mm.tsl rEntry 111 ((Pl.logAt x x.Leader).take cn) (.slice A' n' c') fp']) hX4)
          clear hX4 hd0 hd2 hd5 eL
          have z5 := HS4.out.frz (k := 5) 1 rfl
          have z6 := HS4.out.cell (k := 5) 1 rfl rfl
          have HS5 : Hid (Mm.SepF _ w _ [_, _, _, _, _, _]) := Lib.hid (HS4.out.setBlk (k := 5) 1 rfl (.slice A' n' c'))
          go_wp2
          exact bodyPost_ret (v := .bool true) (by simp [results, Try.results45, go_sem]) rfl ⟨by rw [HE.out], _, by rw [HE.out]; exact (shut_Repl (x := { x with Certain := (Pl.logAt x x.Leader).take cn }) (HS5.out.sel [1, 2, 3, 4, 0] (by decide) rfl) HJ.out.1 HJ.out.2).left⟩
        · have HE : Hid (Pl.rstep r ⟨2,nd,⟨#[]⟩⟩ = (x, true)) := Lib.hid (by rw [HC.out, Pl.rcert_ge (by rw [HCN.out, ← HQ3.out]; exact hct)])
          have f1 : ¬ (n3 : Int) < (cn : Nat) := by omega
          go_wp2
          exact bodyPost_ret (v := .bool true) (by simp [results, Try.results45, go_sem]) rfl ⟨by rw [HE.out], _, by rw [HE.out]; exact (shut_Repl HQ.out HJ.out.1 HJ.out.2).left⟩
end Go.Proofs.Ytihendiakgfpcaa

/-
  Contracts: the program's step of a replication: a write (chapter 9). No conditions beyond those named.
-/
namespace Go.Proofs.Ytihendiakgfpcaa
open Go.RowKit
attribute [local go_sem] und_cell cha_cell World.cell?_alloc_some
theorem Pl.RS.write {r : Repl} (h : RS r) {k : Nat} {l : List Entry} (hl : l.length ≤ 40) : RS { r with Logs := r.Logs.set k l } := by
  refine ⟨by simpa using h.n5, by simpa using h.lead, h.sync5, by simpa using h.syncIn, h.leadIn, fun j m hm => ?_⟩
  rcases get_set_cases hm with ⟨_, rfl, _⟩ | ⟨_, hm⟩
  · exact hl
  · exact h.len j m hm
set_option maxRecDepth 100000 in
set_option maxHeartbeats 4000000 in
theorem stepWrite_c (r : Repl) (nd : Int) (tx : ByteArray) (g : Nat) (fp : List Nat) (w : World) (h : (Mm.tptr rRepl 31 g r fp).holds w) (hnd : (g :: fp).Nodup) (hw : Pl.RW r) (hz : nd = 0) :
    Calls Try.prog 45 #[.pointer (some ⟨g, 0, none⟩), .agg #[.int .i64 1, .int .i64 nd, .string tx]] w (RStepAns g fp w (Pl.rstep r ⟨1, nd, tx⟩)) := by
  have k0 : 0 ≤ nd := by omega
  have k1 : nd < r.Logs.length := by have := hw.n1; omega
  have fz : (nd != 0) = false := by simpa using hz
  have HZ := Lib.hid hz
  clear hz
  obtain ⟨A0, n0, c0, A1, n1, c1, A2, n2, c2, A3, n3, c3, f0, f1, f2, f3, rfl, i2, i3, hs⟩ := open_Repl (Mm.SepF.one _ w h hnd)
  have hn0 : n0 = r.Logs.length := by obtain ⟨A', n', c', hv, h1, _⟩ := (hs.sl 1 rfl).form; injection hv with _ h2 _; omega
  have hn1 : n1 = r.Logs.length := by obtain ⟨A', n', c', hv, h1, _⟩ := (hs.sl 2 rfl).form; injection hv with _ h2 _; have := hw.down; omega
  have hn2 : n2 = r.InSync.length := by obtain ⟨A', n', c', hv, h1, _⟩ := (hs.sl 3 rfl).form; injection hv with _ h2 _; omega
  have hsn5 := hw.sync5
  have hp5 := hw.n5
  have hp1 := hw.n1
  have l0 : 0 ≤ r.Leader := hw.lead.1
  have l1 : r.Leader < n1 := by have := hw.lead.2; omega
  obtain ⟨g1, rfl, -, -⟩ := Mm.sl_addr (hs.sl 2 rfl) (by have := hw.down; omega)
  have HI := Lib.hid (And.intro i2 i3)
  have HW := Lib.hid hw
  have HDL : Hid (r.Down[r.Leader.toNat]? = some (Pl.downAt r r.Leader)) := Lib.hid (hw.dat l0 hw.lead.2)
  obtain ⟨gs, hgs⟩ : ∃ gs, w.heap.size = gs := ⟨_, rfl⟩
  obtain ⟨g0, rfl, -, -⟩ := Mm.sl_addr (hs.sl 1 rfl) (by have := hw.n1; omega)
  have HDN : Hid (r.Down[nd.toNat]? = some (Pl.downAt r nd)) := Lib.hid (hw.dat k0 k1)
  obtain ⟨dn, hdn⟩ : ∃ dn, Pl.downAt r nd = dn := ⟨_, rfl⟩
  obtain ⟨dl, hdl⟩ : ∃ dl, Pl.downAt r r.Leader = dl := ⟨_, rfl⟩
  rw [hdn] at HDN
  rw [hdl] at HDL
  have HED := Lib.hid (And.intro hdl hdn)
  clear hdl hdn
  obtain ⟨W0, hW0⟩ : ∃ W0, w.alloc (.cells #[.int .i64 1, .int .i64 nd, .string tx] 53) = W0 := ⟨_, rfl⟩
  have HS := Lib.hid ((hs.alloc' hgs 53 [.int .i64 1, .int .i64 nd, .string tx]).atW hW0)
  have hn01 : n1 = n0 := by omega
  have HN := Lib.hid (And.intro hn0 (And.intro hn2 hn01))
  have k1' : nd < n0 := by omega
  have k1'' : nd < n1 := by omega
  have hn05 : n0 ≤ 5 := by omega
  have hn25 : n2 ≤ 5 := by omega
  have fw : IntKind.i64.wrap ((n0 : Int) - 1) = (n0 : Int) - 1 := IntWalk.i64_in _ (by omega)
  have hwi : Pl.isIn nd 0 ((n0 : Int) - 1) = true := Pl.isIn_mk k0 (by omega)
  have CW := fun z : Und W0 => und_same z (within_c nd 0 ((n0 : Int) - 1) (und W0 z))
  rw [hwi] at CW
  clear h hs hnd hw hn0 hn1 hn2 i2 i3 hn01 k1
  have b0 := HS.out.cell (k := 0) 0 rfl rfl
  have b1 := HS.out.cell (k := 1) 0 rfl rfl
  have b2 := HS.out.cell (k := 2) 0 rfl rfl
  have d0 := HS.out.cell (k := 0) 1 rfl rfl
  have d1 := HS.out.cell (k := 1) 1 rfl rfl
  have d2 := HS.out.cell (k := 2) 1 rfl rfl
  have d3 := HS.out.cell (k := 3) 1 rfl rfl
  have d4 := HS.out.cell (k := 4) 1 rfl rfl
  have el := bool_ocell (HS.out.sl 3 rfl) (HS.out.ndat (i := 3) rfl) HDL.out
  have en := bool_ocell (HS.out.sl 3 rfl) (HS.out.ndat (i := 3) rfl) HDN.out
  go_enter Try.func45, Try.ntmps45
  go_wp2
  clear hW0
  refine wp_region_und (by kernel_rfl) (by kernel_rfl) ?_
  repeat (go_big_quiet_step ((first | (go_at_call 43; with_reducible exact CW _))))
  refine wpQuiet_nil ?_
  intro X hX
  clear CW
  have HS1 := Lib.hid (HS.out.step hX)
  clear b0 b1 b2 d0 d1 d2 d3 d4 el en
  obtain ⟨X1, rfl⟩ : ∃ q : World, q = X := ⟨_, rfl⟩
  have b0 := HS1.out.cell (k := 0) 0 rfl rfl
  have b1 := HS1.out.cell (k := 1) 0 rfl rfl
  have b2 := HS1.out.cell (k := 2) 0 rfl rfl
  have d0 := HS1.out.cell (k := 0) 1 rfl rfl
  have d1 := HS1.out.cell (k := 1) 1 rfl rfl
  have d2 := HS1.out.cell (k := 2) 1 rfl rfl
  have d3 := HS1.out.cell (k := 3) 1 rfl rfl
  have d4 := HS1.out.cell (k := 4) 1 rfl rfl
  have el := bool_ocell (HS1.out.sl 3 rfl) (HS1.out.ndat (i := 3) rfl) HDL.out
  have en := bool_ocell (HS1.out.sl 3 rfl) (HS1.out.ndat (i := 3) rfl) HDN.out
  clear hX HS
  have CB := fun z : Und X1 => und_same z (bsInt_c r.InSync nd A2 n2 c2 (und X1 z) X1.heap.size (((HS1.out.sl 4 rfl).weak (HS1.out.sl 4 rfl).olt).und (Nat.le_refl _) z) HW.out.sync (by omega))
  obtain ⟨ip, hip⟩ : ∃ ip, Pl.ipos r.InSync nd = ip := ⟨_, rfl⟩
  obtain ⟨ii, hii⟩ : ∃ ii, Pl.hasI r.InSync nd = ii := ⟨_, rfl⟩
  rw [hip, hii] at CB
  have HIP := Lib.hid hip
  have HII := Lib.hid hii
  clear hip hii fw hwi
  go_wp2
  refine wp_region_und (by kernel_rfl) (by kernel_rfl) ?_
  repeat (go_big_quiet_step ((first | (go_at_call 85; with_reducible exact CB _))))
  refine wpQuiet_nil ?_
  intro X hX
  clear CB
  have HS2 := Lib.hid (HS1.out.step hX)
  clear b0 b1 b2 d0 d1 d2 d3 d4 el en
  obtain ⟨X2, rfl⟩ : ∃ q : World, q = X := ⟨_, rfl⟩
  have b0 := HS2.out.cell (k := 0) 0 rfl rfl
  have b1 := HS2.out.cell (k := 1) 0 rfl rfl
  have b2 := HS2.out.cell (k := 2) 0 rfl rfl
  have d0 := HS2.out.cell (k := 0) 1 rfl rfl
  have d1 := HS2.out.cell (k := 1) 1 rfl rfl
  have d2 := HS2.out.cell (k := 2) 1 rfl rfl
  have d3 := HS2.out.cell (k := 3) 1 rfl rfl
  have d4 := HS2.out.cell (k := 4) 1 rfl rfl
  have el := bool_ocell (HS2.out.sl 3 rfl) (HS2.out.ndat (i := 3) rfl) HDL.out
  have en := bool_ocell (HS2.out.sl 3 rfl) (HS2.out.ndat (i := 3) rfl) HDN.out
  clear hX HS1
  go_wp2
  refine wp_region_und (by kernel_rfl) (by kernel_rfl) ?_
  repeat (go_big_quiet_step ((first | fail)))
  refine wpQuiet_nil ?_
  intro X hX
  have HS3 := Lib.hid (HS2.out.step hX)
  clear b0 b1 b2 d0 d1 d2 d3 d4 el en
  obtain ⟨X3, rfl⟩ : ∃ q : World, q = X := ⟨_, rfl⟩
  have b0 := HS3.out.cell (k := 0) 0 rfl rfl
  have b1 := HS3.out.cell (k := 1) 0 rfl rfl
  have b2 := HS3.out.cell (k := 2) 0 rfl rfl
  have d0 := HS3.out.cell (k := 0) 1 rfl rfl
  have d1 := HS3.out.cell (k := 1) 1 rfl rfl
  have d2 := HS3.out.cell (k := 2) 1 rfl rfl
  have d3 := HS3.out.cell (k := 3) 1 rfl rfl
  have d4 := HS3.out.cell (k := 4) 1 rfl rfl
  have el := bool_ocell (HS3.out.sl 3 rfl) (HS3.out.ndat (i := 3) rfl) HDL.out
  have en := bool_ocell (HS3.out.sl 3 rfl) (HS3.out.ndat (i := 3) rfl) HDN.out
  clear hX HS2
  have hly := HW.out.at_ HW.out.lead.1 HW.out.lead.2
  obtain ⟨ys, hys⟩ : ∃ ys, Pl.logAt r r.Leader = ys := ⟨_, rfl⟩
  rw [hys] at hly
  have bad : ¬ (dl = false ∧ tx.size ≤ 20 ∧ ys.length ≠ 40 ∧ Pl.lastEp ys ≤ r.Epoch) → Pl.rstep r ⟨1, nd, tx⟩ = (r, false) := fun hh => Pl.rstep_no' (by
    unfold Pl.rdo
    dsimp only
    rw [if_pos rfl, HED.out.1, hys, if_neg (fun h5 => hh h5.2)])
  have BAD := Lib.hid bad
  have HY := Lib.hid hly
  have HYS := Lib.hid hys
  have hy40 : ys.length ≤ 40 := by rw [← hys]; exact HW.out.rs.len' _
  have l1' : r.Leader < n0 := by have := HW.out.lead.2; have := HN.out.1; omega
  clear bad hly hys
  go_wp2
  refine wp_region_und (by kernel_rfl) (by kernel_rfl) ?_
  repeat (go_big_quiet_step ((first | fail)))
  refine wpQuiet_nil ?_
  intro X hX
  have HS3' := Lib.hid (HS3.out.step hX)
  clear b0 b1 b2 d0 d1 d2 d3 d4 el en
  obtain ⟨X4, rfl⟩ : ∃ q : World, q = X := ⟨_, rfl⟩
  have b0 := HS3'.out.cell (k := 0) 0 rfl rfl
  have b1 := HS3'.out.cell (k := 1) 0 rfl rfl
  have b2 := HS3'.out.cell (k := 2) 0 rfl rfl
  have d0 := HS3'.out.cell (k := 0) 1 rfl rfl
  have d1 := HS3'.out.cell (k := 1) 1 rfl rfl
  have d2 := HS3'.out.cell (k := 2) 1 rfl rfl
  have d3 := HS3'.out.cell (k := 3) 1 rfl rfl
  have d4 := HS3'.out.cell (k := 4) 1 rfl rfl
  have el := bool_ocell (HS3'.out.sl 3 rfl) (HS3'.out.ndat (i := 3) rfl) HDL.out
  have en := bool_ocell (HS3'.out.sl 3 rfl) (HS3'.out.ndat (i := 3) rfl) HDN.out
  clear hX HS3
  have HS3 := HS3'
  clear HS3'
  obtain ⟨X3, rfl⟩ : ∃ q : World, q = X4 := ⟨_, rfl⟩
  obtain ⟨A, m, d, fx, e0, rfl, ho, -, -, -, -, -⟩ := HS3.out.openIn 2 rfl HY.out
  have hcap : ys.length ≤ d ∧ d ≤ maxLen := by obtain ⟨A', n', c', hv, h1, h2, h3, _⟩ := ho.form; injection hv with _ h4 h5; omega
  unfold maxLen at hcap
  cases dl with
  | true =>
    have HF := Lib.hid (BAD.out (fun hh => by cases hh.1))
    clear BAD ho
    go_wp2
    refine wp_region_und (by kernel_rfl) (by kernel_rfl) ?_
    repeat (go_big_quiet_step ((first | fail)))
    refine wpQuiet_nil ?_
    intro X hX
    have HS3' := Lib.hid (HS3.out.step hX)
    clear b0 b1 b2 d0 d1 d2 d3 d4 el en
    obtain ⟨X4, rfl⟩ : ∃ q : World, q = X := ⟨_, rfl⟩
    have b0 := HS3'.out.cell (k := 0) 0 rfl rfl
    have b1 := HS3'.out.cell (k := 1) 0 rfl rfl
    have b2 := HS3'.out.cell (k := 2) 0 rfl rfl
    have d0 := HS3'.out.cell (k := 0) 1 rfl rfl
    have d1 := HS3'.out.cell (k := 1) 1 rfl rfl
    have d2 := HS3'.out.cell (k := 2) 1 rfl rfl
    have d3 := HS3'.out.cell (k := 3) 1 rfl rfl
    have d4 := HS3'.out.cell (k := 4) 1 rfl rfl
    have el := bool_ocell (HS3'.out.sl 3 rfl) (HS3'.out.ndat (i := 3) rfl) HDL.out
    have en := bool_ocell (HS3'.out.sl 3 rfl) (HS3'.out.ndat (i := 3) rfl) HDN.out
    clear hX HS3
    have HS3 := HS3'
    clear HS3'
    obtain ⟨X3, rfl⟩ : ∃ q : World, q = X4 := ⟨_, rfl⟩
    go_wp2
    exact bodyPost_ret (v := .bool false) (by simp [results, Try.results45, go_sem]) rfl ⟨by rw [HF.out], _, by rw [HF.out]; exact (shut_Repl HS3.out.tail HI.out.1 HI.out.2).left⟩
  | false =>
    by_cases h40 : ys.length = 40
    · have HF := Lib.hid (BAD.out (fun hh => hh.2.2.1 h40))
      have f4 : ((ys.length : Int) == 40) = true := by simp [h40]
      clear BAD ho h40
      go_wp2
      refine wp_region_und (by kernel_rfl) (by kernel_rfl) ?_
      repeat (go_big_quiet_step ((first | fail)))
      refine wpQuiet_nil ?_
      intro X hX
      have HS3' := Lib.hid (HS3.out.step hX)
      clear b0 b1 b2 d0 d1 d2 d3 d4 el en
      obtain ⟨X4, rfl⟩ : ∃ q : World, q = X := ⟨_, rfl⟩
      have b0 := HS3'.out.cell (k := 0) 0 rfl rfl
      have b1 := HS3'.out.cell (k := 1) 0 rfl rfl
      have b2 := HS3'.out.cell (k := 2) 0 rfl rfl
      have d0 := HS3'.out.cell (k := 0) 1 rfl rfl
      have d1 := HS3'.out.cell (k := 1) 1 rfl rfl
      have d2 := HS3'.out.cell (k := 2) 1 rfl rfl
      have d3 := HS3'.out.cell (k := 3) 1 rfl rfl
      have d4 := HS3'.out.cell (k := 4) 1 rfl rfl
      have el := bool_ocell (HS3'.out.sl 3 rfl) (HS3'.out.ndat (i := 3) rfl) HDL.out
      have en := bool_ocell (HS3'.out.sl 3 rfl) (HS3'.out.ndat (i := 3) rfl) HDN.out
      clear hX HS3
      have HS3 := HS3'
      clear HS3'
      obtain ⟨X3, rfl⟩ : ∃ q : World, q = X4 := ⟨_, rfl⟩
      go_wp2
      exact bodyPost_ret (v := .bool false) (by simp [results, Try.results45, go_sem]) rfl ⟨by rw [HF.out], _, by rw [HF.out]; exact (shut_Repl HS3.out.tail HI.out.1 HI.out.2).left⟩
    · have f4 : ((ys.length : Int) == 40) = false := by simp; omega
      have CL := fun z : Und X3 => und_same z (lastEpoch_c ys A ys.length d (und X3 z) X3.heap.size ((ho.weak ho.olt).und (Nat.le_refl _) z))
      clear ho
      obtain ⟨le, hle⟩ : ∃ le, Pl.lastEp ys = le := ⟨_, rfl⟩
      rw [hle] at CL BAD
      have HLE := Lib.hid hle
      clear hle
      by_cases h5 : le ≤ r.Epoch
      rotate_left
      · have HF := Lib.hid (BAD.out (fun hh => h5 hh.2.2.2))
        have f5 : decide (r.Epoch < le) = true := by simp; omega
        clear BAD h5
        go_wp2
        refine wp_region_und (by kernel_rfl) (by kernel_rfl) ?_
        repeat (go_big_quiet_step ((first | (go_at_call 86; with_reducible exact CL _))))
        refine wpQuiet_nil ?_
        intro X hX
        clear CL e0
        have HS3' := Lib.hid (HS3.out.step hX)
        clear b0 b1 b2 d0 d1 d2 d3 d4 el en
        obtain ⟨X4, rfl⟩ : ∃ q : World, q = X := ⟨_, rfl⟩
        have b0 := HS3'.out.cell (k := 0) 0 rfl rfl
        have b1 := HS3'.out.cell (k := 1) 0 rfl rfl
        have b2 := HS3'.out.cell (k := 2) 0 rfl rfl
        have d0 := HS3'.out.cell (k := 0) 1 rfl rfl
        have d1 := HS3'.out.cell (k := 1) 1 rfl rfl
        have d2 := HS3'.out.cell (k := 2) 1 rfl rfl
        have d3 := HS3'.out.cell (k := 3) 1 rfl rfl
        have d4 := HS3'.out.cell (k := 4) 1 rfl rfl
        have el := bool_ocell (HS3'.out.sl 3 rfl) (HS3'.out.ndat (i := 3) rfl) HDL.out
        have en := bool_ocell (HS3'.out.sl 3 rfl) (HS3'.out.ndat (i := 3) rfl) HDN.out
        clear hX HS3
        have HS3 := HS3'
        clear HS3'
        go_wp2
        exact bodyPost_ret (v := .bool false) (by simp [results, Try.results45, go_sem]) rfl ⟨by rw [HF.out], _, by rw [HF.out]; exact (shut_Repl HS3.out.tail HI.out.1 HI.out.2).left⟩
      · have f5 : decide (r.Epoch < le) = false := by simp; omega
        by_cases h6 : tx.size ≤ 20
        rotate_left
        · have HF := Lib.hid (BAD.out (fun hh => h6 hh.2.1))
          have f6 : decide ((20 : Int) < (tx.size : Nat)) = true := by simp; omega
          clear BAD h6
          go_wp2
          refine wp_region_und (by kernel_rfl) (by kernel_rfl) ?_
          repeat (go_big_quiet_step ((first | (go_at_call 86; with_reducible exact CL _))))
          refine wpQuiet_nil ?_
          intro X hX
          clear CL e0
          have HS3' := Lib.hid (HS3.out.step hX)
          clear b0 b1 b2 d0 d1 d2 d3 d4 el en
          obtain ⟨X4, rfl⟩ : ∃ q : World, q = X := ⟨_, rfl⟩
          have b0 := HS3'.out.cell (k := 0) 0 rfl rfl
          have b1 := HS3'.out.cell (k := 1) 0 rfl rfl
          have b2 := HS3'.out.cell (k := 2) 0 rfl rfl
          have d0 := HS3'.out.cell (k := 0) 1 rfl rfl
          have d1 := HS3'.out.cell (k := 1) 1 rfl rfl
          have d2 := HS3'.out.cell (k := 2) 1 rfl rfl
          have d3 := HS3'.out.cell (k := 3) 1 rfl rfl
          have d4 := HS3'.out.cell (k := 4) 1 rfl rfl
          have el := bool_ocell (HS3'.out.sl 3 rfl) (HS3'.out.ndat (i := 3) rfl) HDL.out
          have en := bool_ocell (HS3'.out.sl 3 rfl) (HS3'.out.ndat (i := 3) rfl) HDN.out
          clear hX HS3
          have HS3 := HS3'
          clear HS3'
          go_wp2
          exact bodyPost_ret (v := .bool false) (by simp [results, Try.results45, go_sem]) rfl ⟨by rw [HF.out], _, by rw [HF.out]; exact (shut_Repl HS3.out.tail HI.out.1 HI.out.2).left⟩
        · have f6 : decide ((20 : Int) < (tx.size : Nat)) = false := by simp; omega
          have hdo : Pl.rdo r ⟨1, nd, tx⟩ = ({ r with Logs := r.Logs.set r.Leader.toNat (ys ++ [⟨r.Epoch, tx⟩]) }, true) := by
            unfold Pl.rdo
            dsimp only
            rw [if_pos rfl, HED.out.1, HYS.out, if_pos ⟨HZ.out, rfl, h6, h40, by rw [HLE.out]; exact h5⟩]
          have HC := Lib.hid (Pl.rstep_yes hdo)
          have HRS : Hid (Pl.RS { r with Logs := r.Logs.set r.Leader.toNat (ys ++ [⟨r.Epoch, tx⟩]) }) := Lib.hid (Pl.RS.write HW.out.rs (by rw [List.length_append]; show _ + 1 ≤ 40; omega))
          have HXI : Hid (Mm.I64 r.Epoch ∧ tx.size ≤ maxLen) := Lib.hid ⟨HI.out.2, by unfold maxLen; omega⟩
          obtain ⟨i0, hi, hz0, hz1, hz2⟩ := info_parts Try.infoEntry
          clear hdo BAD
          go_wp2
          refine wp_region_und (by kernel_rfl) (by kernel_rfl) ?_
          repeat (go_big_quiet_step ((first | (go_at_call 86; with_reducible exact CL _))))
          refine wpQuiet_nil ?_
          intro X hX
          clear CL e0
          have HS3' := Lib.hid (HS3.out.step hX)
          clear b0 b1 b2 d0 d1 d2 d3 d4 el en
          obtain ⟨X4, rfl⟩ : ∃ q : World, q = X := ⟨_, rfl⟩
          have b0 := HS3'.out.cell (k := 0) 0 rfl rfl
          have b1 := HS3'.out.cell (k := 1) 0 rfl rfl
          have b2 := HS3'.out.cell (k := 2) 0 rfl rfl
          have d0 := HS3'.out.cell (k := 0) 1 rfl rfl
          have d1 := HS3'.out.cell (k := 1) 1 rfl rfl
          have d2 := HS3'.out.cell (k := 2) 1 rfl rfl
          have d3 := HS3'.out.cell (k := 3) 1 rfl rfl
          have d4 := HS3'.out.cell (k := 4) 1 rfl rfl
          have el := bool_ocell (HS3'.out.sl 3 rfl) (HS3'.out.ndat (i := 3) rfl) HDL.out
          have en := bool_ocell (HS3'.out.sl 3 rfl) (HS3'.out.ndat (i := 3) rfl) HDN.out
          clear hX HS3
          obtain ⟨A, m, d, fx, e0, hm, ho, hfx, hgx, hap, -, hnext⟩ := HS3'.out.openIn 2 rfl HY.out
          subst hm
          have HNX := Lib.hid hnext
          have HO := Lib.hid ho
          have n0' : g ∉ fx := hap 1 _ (by decide) rfl g (by simp [Mm.tblk])
          have n1' : gs ∉ fx := hap 0 _ (by decide) rfl _ (by simp [Mm.tblk])
          have HFX := Lib.hid hfx
          clear hnext ho hap hfx
          go_wp2
          refine Mm.wp_region_give 14 (fun i => match i with | 11 => some (Mm.gBs 111 [.int .i64 r.Epoch, .string tx]) | 12 => some (Mm.gSl rEntry 111 (ys ++ [⟨r.Epoch, tx⟩])) | _ => none) (fun i => match i with | 12 => [11, 15] | _ => []) (fun i => match i with | 15 => [Mm.tsl rEntry 111 ys (.slice A ys.length d) fx] | _ => []) (F := fx) (D := fun w' => ∃ x : Cha fx X4, w' = cha fx X4 x) (fun X us h => Mm.sep_cha h) (by kernel_rfl) (by kernel_rfl) (by kernel_rfl) (Mm.sep_eq ((Mm.SepF.one (Mm.tsl rEntry 111 ys (.slice A ys.length d) fx) X4 HO.out HFX.out).step (Below.refl _ _).drew) rfl) ?_
          repeat (refine Mm.give_det (by rfl) (by rfl) (by rfl) (fun K hK => ?_); go_big_quiet_op; refine hK _ ?_; clear hK K)
          refine Mm.give_op0 111 (by rfl) rfl (by rfl) (by rfl) (by rfl) (by rfl) Mm.gBs_in (fun others X6 hX6 => ?_) ?_
          · go_wp2
            exact Mm.gvq_bs hX6 rfl rfl rfl
          rintro v ds ⟨gb, rfl, rfl⟩
          simp only [Act.put, List.setIfInBounds_toArray, List.set_cons_succ, List.set_cons_zero]
          refine Mm.give_op2 112 11 15 (by rfl) rfl (by rfl) (by rfl) (by rfl) rfl (by rfl) (by rfl) (by rfl) _ _ rfl rfl Mm.gSl_in (fun others X6 hX6 => Mm.app_gvq rfl (.tmp 103) (.tmp 111) 29 rfl 112 rfl (by rfl) i0 _ 24 Try.underlying29 hi hz0 hz1 hz2 rfl (by decide) rfl rfl (fun W => rEntry_own_mk HXI.out) (by unfold maxLen; omega) (by omega) hX6) ?_
          rintro v ds ⟨A5, n5, c5, f5', rfl, rfl, hn5⟩
          simp only [Act.put, List.setIfInBounds_toArray, List.set_cons_succ, List.set_cons_zero]
          repeat (refine Mm.give_det (by rfl) (by rfl) (by rfl) (fun K hK => ?_); go_big_quiet_op; refine hK _ ?_; clear hK K)
          refine Mm.give_nil ?_
          rintro X6 hX6
          obtain ⟨q0, q1, -, fp', hs4⟩ := HNX.out X6 (ys ++ [⟨r.Epoch, tx⟩]) A5 n5 c5 f5' (Mm.sep_eq hX6 rfl)
          have HS5 := Lib.hid hs4
          clear hs4 hX6 n0' n1' HNX HO HFX e0
          clear b0 b1 b2 d0 d1 d2 d3 d4 el en
          go_upto_region 23 with fail
          have HT := Lib.hid (shut_Repl (x := { r with Logs := r.Logs.set r.Leader.toNat (ys ++ [⟨r.Epoch, tx⟩]) }) HS5.out.tail HI.out.1 HI.out.2)
          clear HS3' HS5 q0 q1
          obtain ⟨XT, hXT⟩ : ∃ XT, X6.setCell ⟨g0, r.Leader.toNat, none⟩ (.slice A5 n5 c5) = XT := ⟨_, rfl⟩
          rw [hXT] at HT ⊢
          clear hXT
          obtain ⟨x, hx⟩ : ∃ x : Repl, { r with Logs := r.Logs.set r.Leader.toNat (ys ++ [⟨r.Epoch, tx⟩]) } = x := ⟨_, rfl⟩
          rw [hx] at HT HRS HC
          clear hx
          obtain ⟨csx, hbk, hown⟩ := HT.out.at_ 0 rfl
          have CC := certain_c x g csx XT XT.heap.size hbk (rRepl.weak hown (rRepl.olt hown)) (Nat.le_refl _) HRS.out
          obtain ⟨cn, hcn⟩ : ∃ cn, Pl.certain x = cn := ⟨_, rfl⟩
          rw [hcn] at CC
          have HCN := Lib.hid hcn
          have hcl := Pl.certain_le x
          have hcl4 := HRS.out.len' x.Leader
          rw [hcn] at hcl
          clear hcn hbk hown
          go_upto_region 24 with (go_at_call 51; (with_reducible refine CC.mono ?_); clear CC; rintro e w7 ⟨rfl, hb7⟩; (have HT2 := Lib.hid (HT.out.step hb7)); clear hb7)
          clear HT
          obtain ⟨A0, n0, c0, A1, n1, c1, A2, n2, c2, A3, n3, c3, q0, q1, q2, q3, hfq, j2, j3, hq⟩ := open_Repl HT2.out
          have HJ := Lib.hid (And.intro j2 j3)
          have HQ := Lib.hid hq
          have hq3 : n3 = x.Certain.length := by obtain ⟨A', n', c', hv, h1, _⟩ := (hq.sl 4 rfl).form; injection hv with _ h2 _; omega
          have hq0 : n0 = x.Logs.length := by obtain ⟨A', n', c', hv, h1, _⟩ := (hq.sl 1 rfl).form; injection hv with _ h2 _; omega
          have HQ3 := Lib.hid hq3
          have hd0 := hq.cell (k := 0) 0 rfl rfl
          have hd2 := hq.cell (k := 2) 0 rfl rfl
          have hd5 := hq.cell (k := 5) 0 rfl rfl
          have ll0 := HRS.out.lead.1
          have ll1 : x.Leader < n0 := by have := HRS.out.lead.2; omega
          obtain ⟨g0', rfl, -, -⟩ := Mm.sl_addr (hq.sl 1 rfl) (by omega)
          obtain ⟨AL, nL, cL, _, hlL, eL⟩ := log_at' ((hq.sl 1 rfl).weak (hq.sl 1 rfl).olt) ll0 ll1
          simp only [Nat.zero_add] at eL
          have HLL := Lib.hid hlL
          have hnL : (Pl.logAt x x.Leader).length = nL := hlL.1
          have hnLc : nL ≤ cL ∧ cL ≤ 9223372036854775807 := by have h1 := hlL.2.1; have h2 := hlL.2.2.1; unfold maxLen at h2; omega
          rw [hnL] at hcl hcl4
          clear hq hq3 hq0 hfq j2 j3 hlL hnL HT2
          by_cases hct : n3 < cn
          · have HE : Hid (Pl.rstep r ⟨1,nd,tx⟩ = ({ x with Certain := (Pl.logAt x x.Leader).take cn }, true)) := Lib.hid (by rw [HC.out, Pl.rcert_lt (by rw [HCN.out, ← HQ3.out]; exact hct), HCN.out])
            have f1 : (n3 : Int) < (cn : Nat) := by omega
            have f2 : (0 : Int) ≤ (cn : Nat) := by omega
            have f3 : ((cn : Nat) : Int).toNat = cn := by omega
            have f4 : (cn : Int) ≤ (nL : Nat) := by omega
            have f5 : (cn : Int) ≤ (cL : Nat) := by omega
            have f6 : cn ≤ cL := by omega
            have HTK := Lib.hid (HLL.out.take (show cn ≤ nL by omega))
            go_wp2
            refine Mm.wp_region_give 16 (fun i => match i with | 13 => some (Mm.gSl rEntry 111 ((Pl.logAt x x.Leader).take cn)) | _ => none) (fun _ => []) (fun _ => []) (F := []) (D := fun w' => ∃ z : Und w7, w' = und w7 z) (fun X us h => Mm.sep_und h) (by kernel_rfl) (by kernel_rfl) (by kernel_rfl) (Mm.SepF.startDrew _) ?_
            repeat (refine Mm.give_det (by rfl) (by rfl) (by rfl) (fun K hK => ?_); go_big_quiet_op; refine hK _ ?_; clear hK K)
            refine Mm.give_op0 301 (by rfl) rfl (by rfl) (by rfl) (by rfl) (by rfl) Mm.gSl_in (fun others X8 hX8 => ?_) ?_
            · go_wp2_with (go_at_call 90; (with_reducible refine (clEnt_c ((Pl.logAt x x.Leader).take cn) AL cn cL X8 w7.heap.size (HTK.out.keep (w' := X8) fun b hb => hX8.bel0.block b hb) (by omega)).mono ?_); rintro e w5 ⟨A', n', c', fp', rfl, ho, hnd', hnew, hb5⟩)
              exact Mm.gvq_sl hX8 hb5 ho hnd' hnew rfl rfl
            rintro v ds ⟨A', n', c', fp', rfl, rfl, hn'⟩
            simp only [Act.put, List.setIfInBounds_toArray, List.set_cons_succ, List.set_cons_zero]
            repeat (refine Mm.give_det (by rfl) (by rfl) (by rfl) (fun K hK => ?_); go_big_quiet_op; refine hK _ ?_; clear hK K)
            refine Mm.give_nil ?_
            rintro X4 hX4
            have HS4 := Lib.hid (HQ.out.join (us := [Mm.tsl rEntry 111 ((Pl.logAt x x.Leader).take cn) (.slice A' n' c') fp']) hX4)
            clear hX4 hd0 hd2 hd5 eL
            have z5 := HS4.out.frz (k := 5) 1 rfl
            have z6 := HS4.out.cell (k := 5) 1 rfl rfl
            have HS5 : Hid (Mm.SepF _ w _ [_, _, _, _, _, _]) := Lib.hid (HS4.out.setBlk (k := 5) 1 rfl (.slice A' n' c'))
            go_wp2
            exact bodyPost_ret (v := .bool true) (by simp [results, Try.results45, go_sem]) rfl ⟨by rw [HE.out], _, by rw [HE.out]; exact (shut_Repl (x := { x with Certain := (Pl.logAt x x.Leader).take cn }) (HS5.out.sel [1, 2, 3, 4, 0] (by decide) rfl) HJ.out.1 HJ.out.2).left⟩
          · have HE : Hid (Pl.rstep r ⟨1,nd,tx⟩ = (x, true)) := Lib.hid (by rw [HC.out, Pl.rcert_ge (by rw [HCN.out, ← HQ3.out]; exact hct)])
            have f1 : ¬ (n3 : Int) < (cn : Nat) := by omega
            go_wp2
            exact bodyPost_ret (v := .bool true) (by simp [results, Try.results45, go_sem]) rfl ⟨by rw [HE.out], _, by rw [HE.out]; exact (shut_Repl HQ.out HJ.out.1 HJ.out.2).left⟩
end Go.Proofs.Ytihendiakgfpcaa
