/-
  Contracts of the functions on counters: resets, rise. No conditions.
-/
import Derived.Test.YtjpmnegpkpimhaaWs
import Derived.Test.YtjpmnegpkpimhaaPu
namespace Go.Proofs.Ytjpmnegpkpimhaa
open Go.RowKit
attribute [local go_sem] und_cell


set_option maxHeartbeats 1000000 in
theorem isReset_c (l : List Sample) (A : Option Addr) (n c k : Nat) (w : World) (B : Nat) (hl : Mm.SlAt smp w B l A n c) (hk : k < n) :
    Calls Try.prog 36 #[.slice A n c, .int .i64 k] w fun e w' => e = .returned (.bool (Pl.resetB l k)) ∧ Below w.heap.size w w' := by
  have hn : n ≤ 9223372036854775807 := by have := hl.2.1; have := hl.2.2.1; unfold maxLen at this; omega
  by_cases h0 : k = 0
  · have HF : Hid (Pl.resetB l k = false) := by subst h0; rfl
    have hd0 : decide (0 < k) = false := by subst h0; rfl
    clear hl h0
    go_enter Try.func36, Try.ntmps36
    go_wp2
    refine wp_region_und (by kernel_rfl) (by kernel_rfl) ?_
    repeat (go_big_quiet_step ((first | fail)))
    refine wpQuiet_nil ?_
    intro X hX
    go_wp2
    go_ret
    exact ⟨ret_bool HF.out.symm, hX⟩
  · have hk0 : 0 < k := by omega
    obtain ⟨x, b, off, hx, rfl, hb, _, _, c1, c2⟩ := smp_get hl hk
    obtain ⟨y, hy, _, _, _, c3, c4⟩ := smp_get' hl (show k - 1 < n by omega)
    have HF : Hid (Pl.resetB l k = decide (x.Value < y.Value)) := Pl.resetB_eq hx hy hk0
    clear hl hx hy h0
    go_enter Try.func36, Try.ntmps36
    go_wp2
    refine wp_region_und (by kernel_rfl) (by kernel_rfl) ?_
    repeat (go_big_quiet_step ((first | fail)))
    refine wpQuiet_nil ?_
    intro X hX
    go_wp2
    go_ret
    exact ⟨ret_bool HF.out.symm, hX⟩
set_option maxHeartbeats 1000000 in
theorem implResetsIn_c (l : List Sample) (A : Option Addr) (n c : Nat) (w : World) (B : Nat) (hl : Mm.SlAt smp w B l A n c) (hB : B ≤ w.heap.size) :
    Calls Try.prog 15 #[.slice A n c] w fun e w' => e = Pl.ret2 (Pl.resets l) ∧ Below w.heap.size w w' := by
  have hlen : Hid (l.length = n) := hl.1
  have HL : Hid (Mm.SlAt smp w B l A n c) := hl
  clear hl
  cases hc : Pl.counterOk l
  · have HF : Hid (Pl.resets l = (0, false)) := if_neg (by rw [hc]; simp)
    go_enter Try.func15, Try.ntmps15
    go_wp2_with (go_at_call 28; refine (isCounter_c l _ _ _ _ B HL.out hB).mono ?_; rintro e w1 ⟨rfl, hb1⟩)
    go_ret2
    exact ⟨by rw [HF.out]; rfl, hb1⟩
  · have HF : Hid (Pl.resets l = (Pl.resetsTo l l.length, true)) := if_pos hc
    have hn : n ≤ 40 := by have := Pl.counterOk_len hc; have := hlen.out; omega
    go_enter Try.func15, Try.ntmps15
    go_wp2_with (go_at_call 28; refine (isCounter_c l _ _ _ _ B HL.out hB).mono ?_; rintro e w1 ⟨rfl, hb1⟩)
    go_loopw [4, 5, 11] (fun r _ i wr => ∃ k : Nat, k ≤ n ∧ i = .int .i64 k ∧ r = .int .i64 (Pl.resetsTo l k) ∧ Below w.heap.size w wr) (fun _ _ i _ => n - (intOf i).toNat)
    case atStart => exact ⟨0, Nat.zero_le _, rfl, rfl, hb1⟩
    case round =>
      obtain ⟨k, hk, rfl, rfl, hbel⟩ := hrel
      rename_i wr _
      have hbd := Pl.resetsTo_bd l k
      by_cases hlt : k < n
      · have hR := Lib.hid (HL.out.keep (w' := wr) (fun b hb => hbel.block b (by omega)))
        cases hs : Pl.resetB l k
        · have HN : Hid (Pl.resetsTo l (k + 1) = Pl.resetsTo l k) := Pl.resetsTo_no hs
          go_wp2_with (go_at_call 36; refine (isReset_c l _ _ _ _ _ _ hR.out hlt).mono ?_; rintro e w2 ⟨rfl, hb2⟩)
          go_roundw
          case rel => exact ⟨k + 1, by omega, by go_num, by rw [HN.out], below_step hbel hb2⟩
          case measure => simp [intOf]; omega
        · have HN : Hid (Pl.resetsTo l (k + 1) = Pl.resetsTo l k + 1) := Pl.resetsTo_yes hs
          go_wp2_with (go_at_call 36; refine (isReset_c l _ _ _ _ _ _ hR.out hlt).mono ?_; rintro e w2 ⟨rfl, hb2⟩)
          go_roundw
          case rel => exact ⟨k + 1, by omega, by go_num, by rw [HN.out], below_step hbel hb2⟩
          case measure => simp [intOf]; omega
      · have hkn : Hid (k = l.length) := by have := hlen.out; show k = l.length; omega
        go_wp2
        go_ret2
        exact ⟨by rw [HF.out, ← hkn.out]; rfl, hbel⟩
set_option maxHeartbeats 1000000 in
theorem specResetsIn_c (l : List Sample) (A : Option Addr) (n c : Nat) (w : World) (B : Nat) (hl : Mm.SlAt smp w B l A n c) (hB : B ≤ w.heap.size) :
    Calls Try.prog 16 #[.slice A n c] w fun e w' => e = Pl.ret2 (Pl.resets l) ∧ Below w.heap.size w w' := by
  have hlen : Hid (l.length = n) := hl.1
  have HL : Hid (Mm.SlAt smp w B l A n c) := hl
  clear hl
  cases hc : Pl.counterOk l
  · have HF : Hid (Pl.resets l = (0, false)) := if_neg (by rw [hc]; simp)
    go_enter Try.func16, Try.ntmps16
    go_wp2_with (go_at_call 31; refine (specCounterOk_c l _ _ _ _ B HL.out hB).mono ?_; rintro e w1 ⟨rfl, hb1⟩)
    go_ret2
    exact ⟨by rw [HF.out]; rfl, hb1⟩
  · have HF : Hid (Pl.resets l = (Pl.resetsTo l l.length, true)) := if_pos hc
    have hn : n ≤ 40 := by have := Pl.counterOk_len hc; have := hlen.out; omega
    go_enter Try.func16, Try.ntmps16
    go_wp2_with (go_at_call 31; refine (specCounterOk_c l _ _ _ _ B HL.out hB).mono ?_; rintro e w1 ⟨rfl, hb1⟩)
    go_loopw [4, 5] (fun r i wr => ∃ k : Nat, (k = 0 ∨ k < n) ∧ i = .int .i64 ((k : Int) + 1) ∧ r = .int .i64 (Pl.resetsTo l (k + 1)) ∧ Below w.heap.size w wr) (fun _ i _ => n + 1 - (intOf i).toNat)
    case atStart => exact ⟨0, .inl rfl, rfl, rfl, hb1⟩
    case round =>
      obtain ⟨k, hk, rfl, rfl, hbel⟩ := hrel
      rename_i wr _
      have hbd := Pl.resetsTo_bd l (k + 1)
      by_cases hlt : k + 1 < n
      · have hR := (HL.out.keep (w' := wr) (fun b hb => hbel.block b (by omega)))
        obtain ⟨x, b, off, hx, rfl, hb, _, _, c1, c2⟩ := smp_get hR hlt
        obtain ⟨y, hy, _, _, _, c3, c4⟩ := smp_get' hR (show k < n by omega)
        have hrb : Pl.resetB l (k + 1) = decide (x.Value < y.Value) := Pl.resetB_eq hx hy (by omega)
        have c2' : wr.cell? ⟨b, off + (k + 1) * 2 + 1, none⟩ = some (.int .i64 x.Value) := c2
        by_cases hs : x.Value < y.Value
        · have HN : Hid (Pl.resetsTo l (k + 1 + 1) = Pl.resetsTo l (k + 1) + 1) := Pl.resetsTo_yes (by rw [hrb]; simpa using hs)
          clear hR hx hy hrb
          go_wp2
          refine wp_region_und (by kernel_rfl) (by kernel_rfl) ?_
          repeat (go_big_quiet_step ((first | fail)))
          refine wpQuiet_nil ?_
          intro X hX
          go_wp2
          go_roundw
          case rel => exact ⟨k + 1, by omega, by go_num, by rw [HN.out], below_step hbel hX⟩
          case measure => simp [intOf]; omega
        · have HN : Hid (Pl.resetsTo l (k + 1 + 1) = Pl.resetsTo l (k + 1)) := Pl.resetsTo_no (by rw [hrb]; simpa using hs)
          clear hR hx hy hrb
          go_wp2
          refine wp_region_und (by kernel_rfl) (by kernel_rfl) ?_
          repeat (go_big_quiet_step ((first | fail)))
          refine wpQuiet_nil ?_
          intro X hX
          go_wp2
          go_roundw
          case rel => exact ⟨k + 1, by omega, by go_num, by rw [HN.out], below_step hbel hX⟩
          case measure => simp [intOf]; omega
      · have hkn : Hid (Pl.resetsTo l (k + 1) = Pl.resetsTo l l.length) := by
          have := hlen.out
          obtain h | h : l.length = k + 1 ∨ l.length = k := by omega
          · show _ = _; rw [h]
          · have h0 : k = 0 := by omega
            show _ = _
            rw [h, h0]; rfl
        go_wp2
        go_ret2
        exact ⟨by rw [HF.out, ← hkn.out]; rfl, hbel⟩
end Go.Proofs.Ytjpmnegpkpimhaa
