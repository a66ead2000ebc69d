/-
  Contracts of the functions on samples that only read. No conditions.
-/
import Derived.Test.YtjpmnegpkpimhaaWa
import Derived.Test.YtjpmnegpkpimhaaQu
import Derived.Test.YtjpmnegpkpimhaaTy
import Derived.Test.YtjpmnegpkpimhaaPs
import Derived.Lib.Hide
import Derived.Deep.DeepFit
namespace Go.Proofs.Ytjpmnegpkpimhaa
open Go.RowKit
attribute [local go_sem] und_cell

theorem isSample_c (x : Sample) (w : World) :
    Calls Try.prog 45 #[.agg #[.int .i64 x.At, .int .i64 x.Value]] w fun e w' => e = .returned (.bool (Pl.sampleOk x)) ∧ Below w.heap.size w w' := by
  have HF : Hid (Pl.sampleOk x = (Pl.isIn x.At 0 1000000000 && Pl.isIn x.Value (-1000000000) 1000000000)) := rfl
  cases h1 : Pl.isIn x.At 0 1000000000
  all_goals
    go_enter Try.func45, Try.ntmps45
    go_wp2_with (go_at_call 29; refine (within_c _ _ _ _).mono ?_; rintro e w' ⟨rfl, rfl⟩)
    go_ret
    exact ⟨ret_bool (by rw [HF.out, h1]; simp), (Below.refl _ _).alloc (Nat.le_refl _) _⟩
set_option maxRecDepth 100000 in
set_option maxHeartbeats 1000000 in
theorem areSamples_c (l : List Sample) (A : Option Addr) (n c : Nat) (w : World) (B : Nat) (hl : Mm.SlAt smp w B l A n c) (hB : B ≤ w.heap.size) :
    Calls Try.prog 38 #[.slice A n c] w fun e w' => e = .returned (.bool (Pl.samplesOk l)) ∧ Below w.heap.size w w' := by
  have hn : n ≤ 9223372036854775807 := by have := hl.2.1; have := hl.2.2.1; unfold maxLen at this; omega
  have hlen : Hid (l.length = n) := hl.1
  have HL : Hid (Mm.SlAt smp w B l A n c) := hl
  clear hl
  go_enter Try.func38, Try.ntmps38
  go_wp2
  go_loopw [3, 4, 7] (fun _ _ i wr => ∃ k : Nat, k ≤ n ∧ i = .int .i64 k ∧ Below w.heap.size w wr ∧ ∀ i, i < k → Pl.sampleGood l i = true) (fun _ _ i _ => n - (intOf i).toNat)
  case atStart => exact ⟨0, Nat.zero_le _, rfl, Below.refl _ _, fun i hi => absurd hi (Nat.not_lt_zero _)⟩
  case round =>
    obtain ⟨k, hk, rfl, hbel, hall⟩ := hrel
    rename_i wr _
    have HA : Hid (∀ i, i < k → Pl.sampleGood l i = true) := hall
    clear hall
    by_cases hlt : k < n
    · have hR := (HL.out.keep (w' := wr) (fun b hb => hbel.block b (by omega)))
      obtain ⟨x, b, off, hx, rfl, hb, b1, b2, c1, c2⟩ := smp_get hR hlt
      have hbw : b < wr.heap.size := by have := hbel.size; omega
      have hb1 : Hid (Mm.I64 x.At ∧ Mm.I64 x.Value) := ⟨b1, b2⟩
      have HX : Hid (l[k]? = some x) := hx
      have hN : Hid (Below w.heap.size w (wr.alloc (.cells #[.int .i64 x.At, .int .i64 x.Value] 37))) := below_new hbel _
      cases hs : Pl.sampleOk x
      · have HF : Hid (Pl.samplesOk l = false) := Pl.samplesOk_bad (by rw [hlen.out]; exact hlt) (Pl.good_bad hx hs)
        clear hR hx b1 b2
        go_wp2
        refine wp_region_und (by kernel_rfl) (by kernel_rfl) ?_
        repeat (go_big_quiet_step ((first | (go_at_call 45; exact und_call _ (isSample_c x _)))))
        refine wpQuiet_nil ?_
        intro X hX
        go_wp2
        go_ret
        exact ⟨ret_bool HF.out.symm, below_step hN.out hX⟩
      · by_cases h0 : k = 0
        · have HG : Hid (∀ i, i < k + 1 → Pl.sampleGood l i = true) := Pl.snocB HA.out (by subst h0; exact Pl.good_zero hx hs)
          have hd0 : decide (0 < k) = false := by subst h0; rfl
          clear h0
          clear hR hx b1 b2
          go_wp2
          refine wp_region_und (by kernel_rfl) (by kernel_rfl) ?_
          repeat (go_big_quiet_step ((first | (go_at_call 45; exact und_call _ (isSample_c x _)))))
          refine wpQuiet_nil ?_
          intro X hX
          go_wp2
          go_roundw
          case rel => exact ⟨k + 1, by omega, by go_num, below_step hN.out hX, HG.out⟩
          case measure => simp [intOf]; omega
        · have hk0 : 0 < k := by omega
          obtain ⟨y, hy, _, _, _, c3, _⟩ := smp_get' hR (show k - 1 < n by omega)
          by_cases hlt2 : y.At < x.At
          · have HG : Hid (∀ i, i < k + 1 → Pl.sampleGood l i = true) := Pl.snocB HA.out (by rw [Pl.good_later hx hy hk0 hs]; simpa using hlt2)
            clear hR hx b1 b2 hy
            go_wp2
            refine wp_region_und (by kernel_rfl) (by kernel_rfl) ?_
            repeat (go_big_quiet_step ((first | (go_at_call 45; exact und_call _ (isSample_c x _)))))
            refine wpQuiet_nil ?_
            intro X hX
            go_wp2
            go_roundw
            case rel => exact ⟨k + 1, by omega, by go_num, below_step hN.out hX, HG.out⟩
            case measure => simp [intOf]; omega
          · have HF : Hid (Pl.samplesOk l = false) := Pl.samplesOk_bad (by rw [hlen.out]; exact hlt) (by rw [Pl.good_later hx hy hk0 hs]; simpa using hlt2)
            clear hR hx b1 b2 hy
            go_wp2
            refine wp_region_und (by kernel_rfl) (by kernel_rfl) ?_
            repeat (go_big_quiet_step ((first | (go_at_call 45; exact und_call _ (isSample_c x _)))))
            refine wpQuiet_nil ?_
            intro X hX
            go_wp2
            go_ret
            exact ⟨ret_bool HF.out.symm, below_step hN.out hX⟩
    · have HF : Hid (Pl.samplesOk l = decide ((l.length : Int) ≤ 40)) := Pl.samplesOk_end (by rw [hlen.out]; omega) HA.out
      go_wp2
      go_ret
      exact ⟨ret_bool (by rw [HF.out, hlen.out]), hbel⟩
set_option maxRecDepth 100000 in
set_option maxHeartbeats 1000000 in
theorem GoodSamples_c (l : List Sample) (A : Option Addr) (n c : Nat) (w : World) (B : Nat) (hl : Mm.SlAt smp w B l A n c) (hB : B ≤ w.heap.size) :
    Calls Try.prog 39 #[.slice A n c] w fun e w' => e = .returned (.bool (Pl.samplesOk l)) ∧ Below w.heap.size w w' := by
  have hn : n ≤ 9223372036854775807 := by have := hl.2.1; have := hl.2.2.1; unfold maxLen at this; omega
  have hlen : Hid (l.length = n) := hl.1
  have HL : Hid (Mm.SlAt smp w B l A n c) := hl
  clear hl
  go_enter Try.func39, Try.ntmps39
  go_wp2
  go_loopw [3, 4, 7] (fun _ _ i wr => ∃ k : Nat, k ≤ n ∧ i = .int .i64 k ∧ Below w.heap.size w wr ∧ ∀ i, i < k → Pl.sampleGood l i = true) (fun _ _ i _ => n - (intOf i).toNat)
  case atStart => exact ⟨0, Nat.zero_le _, rfl, Below.refl _ _, fun i hi => absurd hi (Nat.not_lt_zero _)⟩
  case round =>
    obtain ⟨k, hk, rfl, hbel, hall⟩ := hrel
    rename_i wr _
    have HA : Hid (∀ i, i < k → Pl.sampleGood l i = true) := hall
    clear hall
    by_cases hlt : k < n
    · have hR := (HL.out.keep (w' := wr) (fun b hb => hbel.block b (by omega)))
      obtain ⟨x, b, off, hx, rfl, hb, b1, b2, c1, c2⟩ := smp_get hR hlt
      have hbw : b < wr.heap.size := by have := hbel.size; omega
      have hN : Hid (Below w.heap.size w (wr.alloc (.cells #[.int .i64 x.At, .int .i64 x.Value] 37))) := below_new hbel _
      by_cases hs : Pl.sampleOk x = true
      · obtain ⟨hs1, hs2⟩ := Pl.sampleOk_iff.1 hs
        by_cases h0 : k = 0
        · have HG : Hid (∀ i, i < k + 1 → Pl.sampleGood l i = true) := Pl.snocB HA.out (by subst h0; exact Pl.good_zero hx hs)
          have hd0 : decide (0 < k) = false := by subst h0; rfl
          clear hR hx b1 b2 h0 hs
          go_wp2
          refine wp_region_und (by kernel_rfl) (by kernel_rfl) ?_
          repeat (go_big_quiet_step ((first | (go_at_call 44; exact und_same _ (l1In_c _ _ _ _)))))
          refine wpQuiet_nil ?_
          intro X hX
          go_wp2
          go_roundw
          case rel => exact ⟨k + 1, by omega, by go_num, below_step hN.out hX, HG.out⟩
          case measure => simp [intOf]; omega
        · have hk0 : 0 < k := by omega
          obtain ⟨y, hy, _, _, _, c3, _⟩ := smp_get' hR (show k - 1 < n by omega)
          by_cases hlt2 : y.At < x.At
          · have HG : Hid (∀ i, i < k + 1 → Pl.sampleGood l i = true) := Pl.snocB HA.out (by rw [Pl.good_later hx hy hk0 hs]; simpa using hlt2)
            clear hR hx b1 b2 hy hs
            go_wp2
            refine wp_region_und (by kernel_rfl) (by kernel_rfl) ?_
            repeat (go_big_quiet_step ((first | (go_at_call 44; exact und_same _ (l1In_c _ _ _ _)))))
            refine wpQuiet_nil ?_
            intro X hX
            go_wp2
            go_roundw
            case rel => exact ⟨k + 1, by omega, by go_num, below_step hN.out hX, HG.out⟩
            case measure => simp [intOf]; omega
          · have HF : Hid (Pl.samplesOk l = false) := Pl.samplesOk_bad (by rw [hlen.out]; exact hlt) (by rw [Pl.good_later hx hy hk0 hs]; simpa using hlt2)
            clear hR hx b1 b2 hy hs
            go_wp2
            refine wp_region_und (by kernel_rfl) (by kernel_rfl) ?_
            repeat (go_big_quiet_step ((first | (go_at_call 44; exact und_same _ (l1In_c _ _ _ _)))))
            refine wpQuiet_nil ?_
            intro X hX
            go_wp2
            go_ret
            exact ⟨ret_bool HF.out.symm, below_step hN.out hX⟩
      · have HF : Hid (Pl.samplesOk l = false) := Pl.samplesOk_bad (by rw [hlen.out]; exact hlt) (Pl.good_bad hx (by simpa using hs))
        have hs' := hs
        unfold Pl.sampleOk at hs'
        cases hs1 : Pl.isIn x.At 0 1000000000
        · clear hR hx b1 b2 hs hs'
          go_wp2
          refine wp_region_und (by kernel_rfl) (by kernel_rfl) ?_
          repeat (go_big_quiet_step ((first | (go_at_call 44; exact und_same _ (l1In_c _ _ _ _)))))
          refine wpQuiet_nil ?_
          intro X hX
          go_wp2
          go_ret
          exact ⟨ret_bool HF.out.symm, below_step hN.out hX⟩
        · have hs2 : Pl.isIn x.Value (-1000000000) 1000000000 = false := by rw [hs1] at hs'; simpa using hs'
          clear hR hx b1 b2 hs hs'
          go_wp2
          refine wp_region_und (by kernel_rfl) (by kernel_rfl) ?_
          repeat (go_big_quiet_step ((first | (go_at_call 44; exact und_same _ (l1In_c _ _ _ _)))))
          refine wpQuiet_nil ?_
          intro X hX
          go_wp2
          go_ret
          exact ⟨ret_bool HF.out.symm, below_step hN.out hX⟩
    · have HF : Hid (Pl.samplesOk l = decide ((l.length : Int) ≤ 40)) := Pl.samplesOk_end (by rw [hlen.out]; omega) HA.out
      go_wp2
      go_ret
      exact ⟨ret_bool (by rw [HF.out, hlen.out]), hbel⟩
set_option maxRecDepth 100000 in
set_option maxHeartbeats 1000000 in
theorem specCounterOk_c (l : List Sample) (A : Option Addr) (n c : Nat) (w : World) (B : Nat) (hl : Mm.SlAt smp w B l A n c) (hB : B ≤ w.heap.size) :
    Calls Try.prog 31 #[.slice A n c] w fun e w' => e = .returned (.bool (Pl.counterOk l)) ∧ Below w.heap.size w w' := by
  have hn : n ≤ 9223372036854775807 := by have := hl.2.1; have := hl.2.2.1; unfold maxLen at this; omega
  have hlen : Hid (l.length = n) := hl.1
  have HL : Hid (Mm.SlAt smp w B l A n c) := hl
  clear hl
  go_enter Try.func31, Try.ntmps31
  go_wp2
  go_loopw [4, 7] (fun _ i wr => ∃ k : Nat, k ≤ n ∧ i = .int .i64 k ∧ Below w.heap.size w wr ∧ ∀ i, i < k → (!decide ((Pl.sampleAt l i).Value < 0)) = true) (fun _ i _ => n - (intOf i).toNat)
  case atStart => exact ⟨0, Nat.zero_le _, rfl, Below.refl _ _, fun i hi => absurd hi (Nat.not_lt_zero _)⟩
  case round =>
    obtain ⟨k, hk, rfl, hbel, hall⟩ := hrel
    rename_i wr _
    have HA : Hid (∀ i, i < k → (!decide ((Pl.sampleAt l i).Value < 0)) = true) := hall
    clear hall
    by_cases hlt : k < n
    · have hR := (HL.out.keep (w' := wr) (fun b hb => hbel.block b (by omega)))
      obtain ⟨x, b, off, hx, rfl, hb, b1, b2, c1, c2⟩ := smp_get hR hlt
      have hbw : b < wr.heap.size := by have := hbel.size; omega
      have hN : Hid (Below w.heap.size w (wr.alloc (.cells #[.int .i64 x.At, .int .i64 x.Value] 37))) := below_new hbel _
      by_cases hs : x.Value < 0
      · have HF : Hid (Pl.counterOk l = false) := Pl.counterOk_bad (by rw [hlen.out]; exact hlt) hx hs
        clear hR hx b1 b2
        go_wp2
        go_ret
        exact ⟨ret_bool HF.out.symm, hN.out⟩
      · have HG : Hid (∀ i, i < k + 1 → (!decide ((Pl.sampleAt l i).Value < 0)) = true) := Pl.snocB HA.out (by rw [Pl.sampleAt_of hx]; simpa using hs)
        clear hR hx b1 b2
        go_wp2
        go_roundw
        case rel => exact ⟨k + 1, by omega, by go_num, hN.out, HG.out⟩
        case measure => simp [intOf]; omega
    · have HF : Hid (Pl.counterOk l = Pl.samplesOk l) := Pl.counterOk_end (by rw [hlen.out]; omega) HA.out
      have hR := (HL.out.keep (w' := wr) (fun b hb => hbel.block b (by omega)))
      have hR' : Hid (Mm.SlAt smp wr B l A n c) := hR
      clear hR
      go_wp2_with (go_at_call 39; refine (GoodSamples_c l _ _ _ _ B hR'.out (by have := hbel.size; omega)).mono ?_; rintro e w1 ⟨rfl, hb1⟩)
      go_ret
      exact ⟨ret_bool HF.out.symm, below_step hbel hb1⟩
theorem isCounter1_e (a : Array Value) (w : World) : (callFunc 43 a).run Try.prog w = .ok (.enter 43 a) w := by kernel_rfl
theorem isCounter1_c (x : Sample) (w : World) :
    Calls Try.prog 43 #[.agg #[.int .i64 x.At, .int .i64 x.Value]] w fun e w' => e = .returned (.bool (decide (x.Value < 0))) ∧ Below w.heap.size w w' := by
  go_enter Try.func43, Try.ntmps43
  go_wp2
  go_ret
  exact ⟨rfl, below_new (Below.refl _ _) _⟩
/-- slices.IndexFunc over samples, for a function that answers p and only makes memory -/
theorem idxSmp_c (C : FuncId) (hC : ∀ (a : Array Value) (w : World), (callFunc C a).run Try.prog w = .ok (.enter C a) w) (p : Sample → Bool) (hp : ∀ (x : Sample) (w : World), Calls Try.prog C #[.agg #[.int .i64 x.At, .int .i64 x.Value]] w fun e w' => e = .returned (.bool (p x)) ∧ Below w.heap.size w w')
    (l : List Sample) (A : Option Addr) (n c : Nat) (w : World) (B : Nat) (hl : Mm.SlAt smp w B l A n c) (hB : B ≤ w.heap.size) :
    Calls Try.prog 47 #[.slice A n c, .func (Fn.func C) #[] #[]] w fun e w' => e = .returned (.int .i64 (Pl.idx p l)) ∧ Below w.heap.size w w' := by
  have hn : n ≤ 9223372036854775807 := by have := hl.2.1; have := hl.2.2.1; unfold maxLen at this; omega
  have hlen : Hid (l.length = n) := hl.1
  have HL : Hid (Mm.SlAt smp w B l A n c) := hl
  have HP := Lib.hid hp
  clear hl hp
  go_enter Try.func47, Try.ntmps47
  go_wp2
  go_loopw [5, 8] (fun _ i wr => ∃ k : Nat, k ≤ n ∧ i = .int .i64 k ∧ Below w.heap.size w wr ∧ ∀ i x, i < k → l[i]? = some x → p x = false) (fun _ i _ => n - (intOf i).toNat)
  case atStart => exact ⟨0, Nat.zero_le _, rfl, Below.refl _ _, fun i x hi => absurd hi (Nat.not_lt_zero _)⟩
  case round =>
    obtain ⟨k, hk, rfl, hbel, hall⟩ := hrel
    rename_i wr _
    have HA : Hid (∀ i x, i < k → l[i]? = some x → p x = false) := hall
    clear hall
    by_cases hlt : k < n
    · have hR := (HL.out.keep (w' := wr) (fun b hb => hbel.block b (by omega)))
      obtain ⟨x, b, off, hx, rfl, hb, b1, b2, c1, c2⟩ := smp_get hR hlt
      have hbw : b < wr.heap.size := by have := hbel.size; omega
      have HX : Hid (l[k]? = some x) := hx
      clear hR hx b1 b2
      cases hs : p x
      · go_wp2_with (refine (HP.out x _).mono ?_; rintro e w1 ⟨rfl, hb1⟩)
        go_roundw
        case rel => exact ⟨k + 1, by omega, by go_num, below_step hbel hb1, fun i y hi hy => by
          rcases Nat.lt_succ_iff_lt_or_eq.1 hi with h1 | rfl
          · exact HA.out i y h1 hy
          · rw [HX.out] at hy; injection hy with hy; rw [← hy]; exact hs⟩
        case measure => simp [intOf]; omega
      · have HF : Hid (Pl.idx p l = (k : Int)) := Pl.idx_at HX.out hs HA.out
        go_wp2_with (refine (HP.out x _).mono ?_; rintro e w1 ⟨rfl, hb1⟩)
        go_ret
        exact ⟨ret_int HF.out.symm, below_step hbel hb1⟩
    · have HF : Hid (Pl.idx p l = -1) := Pl.idx_none (by rw [hlen.out]; omega) HA.out
      go_wp2
      go_ret
      exact ⟨ret_int HF.out.symm, hbel⟩
theorem hasSmp_c (C : FuncId) (hC : ∀ (a : Array Value) (w : World), (callFunc C a).run Try.prog w = .ok (.enter C a) w) (p : Sample → Bool) (hp : ∀ (x : Sample) (w : World), Calls Try.prog C #[.agg #[.int .i64 x.At, .int .i64 x.Value]] w fun e w' => e = .returned (.bool (p x)) ∧ Below w.heap.size w w')
    (l : List Sample) (A : Option Addr) (n c : Nat) (w : World) (B : Nat) (hl : Mm.SlAt smp w B l A n c) (hB : B ≤ w.heap.size) :
    Calls Try.prog 42 #[.slice A n c, .func (Fn.func C) #[] #[]] w fun e w' => e = .returned (.bool (l.any p)) ∧ Below w.heap.size w w' := by
  have HL : Hid (Mm.SlAt smp w B l A n c) := hl
  have HP := Lib.hid hp
  have hC := Lib.hid hC
  clear hl hp
  have hi := Pl.idx_ge p l
  go_enter Try.func42, Try.ntmps42
  go_wp2_with (go_at_call 47; refine (idxSmp_c C hC.out p HP.out l _ _ _ _ B HL.out hB).mono ?_; rintro e w1 ⟨rfl, hb1⟩)
  go_ret
  exact ⟨ret_bool (Pl.idx_any p l).symm, hb1⟩
theorem isCounter_c (l : List Sample) (A : Option Addr) (n c : Nat) (w : World) (B : Nat) (hl : Mm.SlAt smp w B l A n c) (hB : B ≤ w.heap.size) :
    Calls Try.prog 28 #[.slice A n c] w fun e w' => e = .returned (.bool (Pl.counterOk l)) ∧ Below w.heap.size w w' := by
  have HL : Hid (Mm.SlAt smp w B l A n c) := hl
  clear hl
  cases hs : Pl.samplesOk l
  · have HF : Hid (Pl.counterOk l = false) := by unfold Pl.counterOk; rw [hs]; rfl
    go_enter Try.func28, Try.ntmps28
    go_wp2_with (go_at_call 38; refine (areSamples_c l _ _ _ _ B HL.out hB).mono ?_; rintro e w1 ⟨rfl, hb1⟩)
    go_ret
    exact ⟨ret_bool HF.out.symm, hb1⟩
  · have HF : Hid (Pl.counterOk l = !(l.any fun x => decide (x.Value < 0))) := Pl.counterOk_any hs
    cases hv : (l.any fun x => decide (x.Value < 0))
    all_goals
      go_enter Try.func28, Try.ntmps28
      go_wp2_with first
        | (go_at_call 38; refine (areSamples_c l _ _ _ _ B HL.out hB).mono ?_; rintro e w1 ⟨rfl, hb1⟩)
        | (go_at_call 42; refine (hasSmp_c 43 isCounter1_e (fun x => decide (x.Value < 0)) isCounter1_c l _ _ _ _ B (HL.out.keep (fun b hb => hb1.block b (by omega))) (by have := hb1.size; omega)).mono ?_; rintro e w2 ⟨rfl, hb2⟩)
      go_ret
      exact ⟨ret_bool (by rw [HF.out, hv]; simp), below_step hb1 hb2⟩
theorem implCounterOk_c (l : List Sample) (A : Option Addr) (n c : Nat) (w : World) (B : Nat) (hl : Mm.SlAt smp w B l A n c) (hB : B ≤ w.heap.size) :
    Calls Try.prog 21 #[.slice A n c] w fun e w' => e = .returned (.bool (Pl.counterOk l)) ∧ Below w.heap.size w w' := by
  have HL : Hid (Mm.SlAt smp w B l A n c) := hl
  clear hl
  go_enter Try.func21, Try.ntmps21
  go_wp2_with (go_at_call 28; refine (isCounter_c l _ _ _ _ B HL.out hB).mono ?_; rintro e w1 ⟨rfl, hb1⟩)
  go_ret
  exact ⟨rfl, hb1⟩
end Go.Proofs.Ytjpmnegpkpimhaa
