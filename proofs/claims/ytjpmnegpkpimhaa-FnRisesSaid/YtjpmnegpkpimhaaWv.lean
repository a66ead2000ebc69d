/-
  Contracts of the functions on counters: rises, rates. No conditions.
-/
import Derived.Test.YtjpmnegpkpimhaaWu
namespace Go.Proofs.Ytjpmnegpkpimhaa
open Go.RowKit
attribute [local go_sem] und_cell
set_option maxHeartbeats 1000000 in
theorem riseOf_c (l : List Sample) (A : Option Addr) (n c : Nat) (w : World) (B : Nat) (hl : Mm.SlAt smp w B l A n c) (hB : B ≤ w.heap.size) (hT : Pl.Tame l) :
    Calls Try.prog 30 #[.slice A n c] w fun e w' => e = .returned (.int .i64 (Pl.rise l)) ∧ Below w.heap.size w w' := by
  have hlen : Hid (l.length = n) := hl.1
  have HL : Hid (Mm.SlAt smp w B l A n c) := hl
  have HTm := Lib.hid hT
  have hn : n ≤ 40 := by have := hT.1; have := hlen.out; omega
  clear hl hT
  go_enter Try.func30, Try.ntmps30
  go_wp2
  go_loopw [3, 4] (fun r i wr => ∃ k : Nat, (k = 0 ∨ k < n) ∧ i = .int .i64 ((k : Int) + 1) ∧ r = .int .i64 (Pl.riseTo l (k + 1)) ∧ Below w.heap.size w wr) (fun _ i _ => n + 1 - (intOf i).toNat)
  case atStart => exact ⟨0, .inl rfl, rfl, rfl, Below.refl _ _⟩
  case round =>
    obtain ⟨k, hk, rfl, rfl, hbel⟩ := hrel
    rename_i wr _
    have hbd := Pl.riseTo_bd HTm.out (k + 1)
    by_cases hlt : k + 1 < n
    · have hR := (HL.out.keep (w' := wr) (fun b hb => hbel.block b (by omega)))
      obtain ⟨x, b, off, hx, rfl, hb, _, _, c1, c2⟩ := smp_get hR hlt
      obtain ⟨y, hy, _, _, _, c3, c4⟩ := smp_get' hR (show k < n by omega)
      have c2' : wr.cell? ⟨b, off + (k + 1) * 2 + 1, none⟩ = some (.int .i64 x.Value) := c2
      have hxb := HTm.out.at_ hx
      have hyb := HTm.out.at_ hy
      have hR' := Lib.hid hR
      cases hrb : Pl.resetB l (k + 1)
      · have HN : Hid (Pl.riseTo l (k + 1 + 1) = Pl.riseTo l (k + 1) + x.Value - y.Value) := Pl.rise_next_up hx hy (by omega) hrb
        clear hR hx hy
        go_wp2_with (go_at_call 36; refine (isReset_c l _ _ _ _ _ _ hR'.out hlt).mono ?_; rintro e w2 ⟨rfl, hb2⟩; have d4 := below_some hb2 c4)
        go_roundw
        case rel => exact ⟨k + 1, by omega, by go_num, by rw [HN.out], below_step hbel hb2⟩
        case measure => simp [intOf]; omega
      · have HN : Hid (Pl.riseTo l (k + 1 + 1) = Pl.riseTo l (k + 1) + x.Value) := Pl.rise_next_reset hx hy (by omega) hrb
        clear hR hx hy
        go_wp2_with (go_at_call 36; refine (isReset_c l _ _ _ _ _ _ hR'.out hlt).mono ?_; rintro e w2 ⟨rfl, hb2⟩)
        go_roundw
        case rel => exact ⟨k + 1, by omega, by go_num, by rw [HN.out], below_step hbel hb2⟩
        case measure => simp [intOf]; omega
    · have hkn : Hid (Pl.riseTo l (k + 1) = Pl.rise l) := Pl.rise_end hlen.out hk hlt
      go_wp2
      go_ret
      exact ⟨ret_int hkn.out, hbel⟩
theorem l16Step_c (a b : Int) (w : World) (ha : 0 ≤ a) (hb : 0 ≤ b) (ha' : a ≤ 1000000000) (hb' : b ≤ 1000000000) :
    Calls Try.prog 33 #[.int .i64 a, .int .i64 b] w fun e w' => e = .returned (.int .i64 (Pl.step a b)) ∧ w = w' := by
  by_cases h : b < a
  · have HF : Hid (Pl.step a b = b) := if_pos h
    go_enter Try.func33, Try.ntmps33
    go_wp2
    go_ret
    exact ⟨ret_int HF.out.symm, rfl⟩
  · have HF : Hid (Pl.step a b = b - a) := if_neg h
    go_enter Try.func33, Try.ntmps33
    go_wp2
    go_ret
    exact ⟨ret_int HF.out.symm, rfl⟩
set_option maxHeartbeats 1000000 in
theorem l16Rise_c (l : List Sample) (A : Option Addr) (n c : Nat) (w : World) (B : Nat) (hl : Mm.SlAt smp w B l A n c) (hB : B ≤ w.heap.size) (hT : Pl.Tame l) :
    Calls Try.prog 35 #[.slice A n c] w fun e w' => e = .returned (.int .i64 (Pl.rise l)) ∧ Below w.heap.size w w' := by
  have hlen : Hid (l.length = n) := hl.1
  have HL : Hid (Mm.SlAt smp w B l A n c) := hl
  have HTm := Lib.hid hT
  have hn : n ≤ 40 := by have := hT.1; have := hlen.out; omega
  clear hl hT
  go_enter Try.func35, Try.ntmps35
  go_wp2
  go_loopw [3, 4] (fun r i wr => ∃ k : Nat, (k = 0 ∨ k < n) ∧ i = .int .i64 ((k : Int) + 1) ∧ r = .int .i64 (Pl.riseTo l (k + 1)) ∧ Below w.heap.size w wr) (fun _ i _ => n + 1 - (intOf i).toNat)
  case atStart => exact ⟨0, .inl rfl, rfl, rfl, Below.refl _ _⟩
  case round =>
    obtain ⟨k, hk, rfl, rfl, hbel⟩ := hrel
    rename_i wr _
    have hbd := Pl.riseTo_bd HTm.out (k + 1)
    by_cases hlt : k + 1 < n
    · have hR := (HL.out.keep (w' := wr) (fun b hb => hbel.block b (by omega)))
      obtain ⟨x, b, off, hx, rfl, hb, _, _, c1, c2⟩ := smp_get hR hlt
      obtain ⟨y, hy, _, _, _, c3, c4⟩ := smp_get' hR (show k < n by omega)
      have c2' : wr.cell? ⟨b, off + (k + 1) * 2 + 1, none⟩ = some (.int .i64 x.Value) := c2
      have hxb := HTm.out.at_ hx
      have hyb := HTm.out.at_ hy
      have HN : Hid (Pl.riseTo l (k + 1 + 1) = Pl.riseTo l (k + 1) + Pl.step y.Value x.Value) := Pl.riseTo_next hx hy (by omega)
      have hst := Pl.step_bd hyb.1 hxb.1 hxb.2
      clear hR hx hy
      go_wp2
      refine wp_region_und (by kernel_rfl) (by kernel_rfl) ?_
      repeat (go_big_quiet_step ((first | (go_at_call 33; exact und_same _ (l16Step_c _ _ _ (by omega) (by omega) (by omega) (by omega))))))
      refine wpQuiet_nil ?_
      intro X hX
      go_wp2
      go_roundw
      case rel => exact ⟨k + 1, by omega, by go_num, by rw [HN.out], below_step hbel hX⟩
      case measure => simp [intOf]; omega
    · have hkn : Hid (Pl.riseTo l (k + 1) = Pl.rise l) := Pl.rise_end hlen.out hk hlt
      go_wp2
      go_ret
      exact ⟨ret_int hkn.out, hbel⟩
theorem implRiseOf_c (l : List Sample) (A : Option Addr) (n c : Nat) (w : World) (B : Nat) (hl : Mm.SlAt smp w B l A n c) (hB : B ≤ w.heap.size) :
    Calls Try.prog 8 #[.slice A n c] w fun e w' => e = Pl.ret2 (Pl.riseOf l) ∧ Below w.heap.size w w' := by
  have HL : Hid (Mm.SlAt smp w B l A n c) := hl
  clear hl
  cases hc : Pl.counterOk l
  · have HF : Hid (Pl.riseOf l = (0, false)) := if_neg (by rw [hc]; simp)
    go_enter Try.func8, Try.ntmps8
    go_wp2_with (go_at_call 28; refine (isCounter_c l _ _ _ _ B HL.out hB).mono ?_; rintro e w1 ⟨rfl, hb1⟩)
    go_ret2
    exact ⟨by rw [HF.out]; rfl, hb1⟩
  · have HF : Hid (Pl.riseOf l = (Pl.rise l, true)) := if_pos hc
    have HTm := Lib.hid (Pl.tame_of hc)
    go_enter Try.func8, Try.ntmps8
    go_wp2_with first
      | (go_at_call 28; refine (isCounter_c l _ _ _ _ B HL.out hB).mono ?_; rintro e w1 ⟨rfl, hb1⟩)
      | (go_at_call 30; refine (riseOf_c l _ _ _ _ B (HL.out.keep (fun b hb => hb1.block b (by omega))) (by have := hb1.size; omega) HTm.out).mono ?_; rintro e w2 ⟨rfl, hb2⟩)
    go_ret2
    exact ⟨by rw [HF.out]; rfl, below_step hb1 hb2⟩
theorem specRiseOf_c (l : List Sample) (A : Option Addr) (n c : Nat) (w : World) (B : Nat) (hl : Mm.SlAt smp w B l A n c) (hB : B ≤ w.heap.size) :
    Calls Try.prog 14 #[.slice A n c] w fun e w' => e = Pl.ret2 (Pl.riseOf l) ∧ Below w.heap.size w w' := by
  have HL : Hid (Mm.SlAt smp w B l A n c) := hl
  clear hl
  cases hc : Pl.counterOk l
  · have HF : Hid (Pl.riseOf l = (0, false)) := if_neg (by rw [hc]; simp)
    go_enter Try.func14, Try.ntmps14
    go_wp2_with (go_at_call 31; refine (specCounterOk_c l _ _ _ _ B HL.out hB).mono ?_; rintro e w1 ⟨rfl, hb1⟩)
    go_ret2
    exact ⟨by rw [HF.out]; rfl, hb1⟩
  · have HF : Hid (Pl.riseOf l = (Pl.rise l, true)) := if_pos hc
    have HTm := Lib.hid (Pl.tame_of hc)
    go_enter Try.func14, Try.ntmps14
    go_wp2_with first
      | (go_at_call 31; refine (specCounterOk_c l _ _ _ _ B HL.out hB).mono ?_; rintro e w1 ⟨rfl, hb1⟩)
      | (go_at_call 35; refine (l16Rise_c l _ _ _ _ B (HL.out.keep (fun b hb => hb1.block b (by omega))) (by have := hb1.size; omega) HTm.out).mono ?_; rintro e w2 ⟨rfl, hb2⟩)
    go_ret2
    exact ⟨by rw [HF.out]; rfl, below_step hb1 hb2⟩
theorem l16Size_c (n : Int) (w : World) :
    Calls Try.prog 32 #[.int .i64 n] w fun e w' => e = .returned (.bool (Pl.isIn n 1 1000000)) ∧ w = w' := by
  go_enter Try.func32, Try.ntmps32
  go_wp2_with (go_at_call 44; refine (l1In_c _ _ _ _).mono ?_; rintro e w' ⟨rfl, rfl⟩)
  go_ret
  exact ⟨rfl, rfl⟩
theorem Pl.per_iff {n : Int} : Pl.isIn n 1 1000000 = true ↔ 1 ≤ n ∧ n ≤ 1000000 := by unfold Pl.isIn; simp
theorem implRateOf_c (l : List Sample) (A : Option Addr) (n c : Nat) (per : Int) (w : World) (B : Nat) (hl : Mm.SlAt smp w B l A n c) (hB : B ≤ w.heap.size) :
    Calls Try.prog 24 #[.slice A n c, .int .i64 per] w fun e w' => e = Pl.ret2 (Pl.rateOf l per) ∧ Below w.heap.size w w' := by
  have hlen : Hid (l.length = n) := hl.1
  have hn : n ≤ 9223372036854775807 := by have := hl.2.1; have := hl.2.2.1; unfold maxLen at this; omega
  have HL : Hid (Mm.SlAt smp w B l A n c) := hl
  clear hl
  cases hc : Pl.counterOk l
  · have HF : Hid (Pl.rateOf l per = (0, false)) := if_neg (by rw [hc]; simp)
    go_enter Try.func24, Try.ntmps24
    go_wp2_with (go_at_call 28; refine (isCounter_c l _ _ _ _ B HL.out hB).mono ?_; rintro e w1 ⟨rfl, hb1⟩)
    go_ret2
    exact ⟨by rw [HF.out]; rfl, hb1⟩
  cases hp : Pl.isIn per 1 1000000
  · have HF : Hid (Pl.rateOf l per = (0, false)) := if_neg (by rw [hp]; simp)
    go_enter Try.func24, Try.ntmps24
    go_wp2_with first
      | (go_at_call 28; refine (isCounter_c l _ _ _ _ B HL.out hB).mono ?_; rintro e w1 ⟨rfl, hb1⟩)
      | (go_at_call 29; refine (within_c _ _ _ _).mono ?_; rintro e w2 ⟨rfl, rfl⟩)
    go_ret2
    exact ⟨by rw [HF.out]; rfl, hb1⟩
  by_cases h2 : n < 2
  · have HF : Hid (Pl.rateOf l per = (0, false)) := if_neg (by have := hlen.out; simp; omega)
    go_enter Try.func24, Try.ntmps24
    go_wp2_with first
      | (go_at_call 28; refine (isCounter_c l _ _ _ _ B HL.out hB).mono ?_; rintro e w1 ⟨rfl, hb1⟩)
      | (go_at_call 29; refine (within_c _ _ _ _).mono ?_; rintro e w2 ⟨rfl, rfl⟩)
    go_ret2
    exact ⟨by rw [HF.out]; rfl, hb1⟩
  · have HTm := Lib.hid (Pl.tame_of hc)
    have hpb := Pl.per_iff.1 hp
    obtain ⟨x, b, off, hx, rfl, hb, _, _, c1, _⟩ := smp_get HL.out (show n - 1 < n by omega)
    obtain ⟨y, hy, _, _, _, c30, _⟩ := smp_get' HL.out (show 0 < n by omega)
    have c3 : w.cell? ⟨b, off, none⟩ = some (.int .i64 y.At) := by simpa using c30
    clear c30
    have hxb := Pl.counter_at hc hx
    have hyb := Pl.counter_at hc hy
    have hlt := Pl.counter_le hc hy (n - 1) (y := x) (by rw [Nat.zero_add]; exact hx)
    have hxy : y.At < x.At := by omega
    have hrb := Pl.rise_bd HTm.out
    have hm : Hid (0 ≤ Pl.rise l * per ∧ Pl.rise l * per ≤ 40000000000000000) := ⟨Int.mul_nonneg hrb.1 (by omega), by
      have h1 := Int.mul_le_mul hrb.2 hpb.2 (by omega) (by omega)
      omega⟩
    have hm1 := hm.out.1
    have hm2 := hm.out.2
    have HF : Hid (Pl.rateOf l per = ((Pl.rise l * per) / (x.At - y.At), true)) := by
      have h3 : (Pl.counterOk l && Pl.isIn per 1 1000000 && decide (2 ≤ l.length)) = true := by have := hlen.out; rw [hc, hp]; simp; omega
      have h4 : Pl.sampleAt l (l.length - 1) = x := Pl.sampleAt_of (by rw [hlen.out]; exact hx)
      have h5 : Pl.sampleAt l 0 = y := Pl.sampleAt_of hy
      show _ = _
      unfold Pl.rateOf
      rw [if_pos h3, h4, h5]
    clear hx hy hlt
    go_enter Try.func24, Try.ntmps24
    go_wp2_with first
      | (go_at_call 28; refine (isCounter_c l _ _ _ _ B HL.out hB).mono ?_; rintro e w1 ⟨rfl, hb1⟩; have d1 := below_some hb1 c1; have d3 := below_some hb1 c3; have HL1 := Lib.hid (HL.out.keep (w' := w1) (fun b hb => hb1.block b (by omega))); have hB1 := Nat.le_trans hB hb1.size)
      | (go_at_call 29; refine (within_c _ _ _ _).mono ?_; rintro e w2 ⟨rfl, rfl⟩)
    refine wp_region_und (by kernel_rfl) (by kernel_rfl) ?_
    repeat (go_big_quiet_step ((first | (go_at_call 30; exact und_call _ (riseOf_c l _ _ _ _ B (HL1.out.und hB1 _) (Nat.le_trans hB1 (und_size _)) HTm.out)))))
    refine wpQuiet_nil ?_
    intro X hX
    go_wp2
    go_ret2
    exact ⟨by rw [HF.out]; rfl, below_step hb1 hX⟩
theorem specRateOf_c (l : List Sample) (A : Option Addr) (n c : Nat) (per : Int) (w : World) (B : Nat) (hl : Mm.SlAt smp w B l A n c) (hB : B ≤ w.heap.size) :
    Calls Try.prog 25 #[.slice A n c, .int .i64 per] w fun e w' => e = Pl.ret2 (Pl.rateOf l per) ∧ Below w.heap.size w w' := by
  have hlen : Hid (l.length = n) := hl.1
  have hn : n ≤ 9223372036854775807 := by have := hl.2.1; have := hl.2.2.1; unfold maxLen at this; omega
  have HL : Hid (Mm.SlAt smp w B l A n c) := hl
  clear hl
  cases hc : Pl.counterOk l
  · have HF : Hid (Pl.rateOf l per = (0, false)) := if_neg (by rw [hc]; simp)
    go_enter Try.func25, Try.ntmps25
    go_wp2_with (go_at_call 31; refine (specCounterOk_c l _ _ _ _ B HL.out hB).mono ?_; rintro e w1 ⟨rfl, hb1⟩)
    go_ret2
    exact ⟨by rw [HF.out]; rfl, hb1⟩
  cases hp : Pl.isIn per 1 1000000
  · have HF : Hid (Pl.rateOf l per = (0, false)) := if_neg (by rw [hp]; simp)
    go_enter Try.func25, Try.ntmps25
    go_wp2_with first
      | (go_at_call 31; refine (specCounterOk_c l _ _ _ _ B HL.out hB).mono ?_; rintro e w1 ⟨rfl, hb1⟩)
      | (go_at_call 32; refine (l16Size_c _ _).mono ?_; rintro e w2 ⟨rfl, rfl⟩)
    go_ret2
    exact ⟨by rw [HF.out]; rfl, hb1⟩
  by_cases h2 : n < 2
  · have HF : Hid (Pl.rateOf l per = (0, false)) := if_neg (by have := hlen.out; simp; omega)
    go_enter Try.func25, Try.ntmps25
    go_wp2_with first
      | (go_at_call 31; refine (specCounterOk_c l _ _ _ _ B HL.out hB).mono ?_; rintro e w1 ⟨rfl, hb1⟩)
      | (go_at_call 32; refine (l16Size_c _ _).mono ?_; rintro e w2 ⟨rfl, rfl⟩)
    go_ret2
    exact ⟨by rw [HF.out]; rfl, hb1⟩
  · have HTm := Lib.hid (Pl.tame_of hc)
    have hpb := Pl.per_iff.1 hp
    obtain ⟨x, b, off, hx, rfl, hb, _, _, c1, _⟩ := smp_get HL.out (show n - 1 < n by omega)
    obtain ⟨y, hy, _, _, _, c30, _⟩ := smp_get' HL.out (show 0 < n by omega)
    have c3 : w.cell? ⟨b, off, none⟩ = some (.int .i64 y.At) := by simpa using c30
    clear c30
    have hxb := Pl.counter_at hc hx
    have hyb := Pl.counter_at hc hy
    have hlt := Pl.counter_le hc hy (n - 1) (y := x) (by rw [Nat.zero_add]; exact hx)
    have hxy : y.At < x.At := by omega
    have hrb := Pl.rise_bd HTm.out
    have hm : Hid (0 ≤ Pl.rise l * per ∧ Pl.rise l * per ≤ 40000000000000000) := ⟨Int.mul_nonneg hrb.1 (by omega), by
      have h1 := Int.mul_le_mul hrb.2 hpb.2 (by omega) (by omega)
      omega⟩
    have hm1 := hm.out.1
    have hm2 := hm.out.2
    have HF : Hid (Pl.rateOf l per = ((Pl.rise l * per) / (x.At - y.At), true)) := by
      have h3 : (Pl.counterOk l && Pl.isIn per 1 1000000 && decide (2 ≤ l.length)) = true := by have := hlen.out; rw [hc, hp]; simp; omega
      have h4 : Pl.sampleAt l (l.length - 1) = x := Pl.sampleAt_of (by rw [hlen.out]; exact hx)
      have h5 : Pl.sampleAt l 0 = y := Pl.sampleAt_of hy
      show _ = _
      unfold Pl.rateOf
      rw [if_pos h3, h4, h5]
    clear hx hy hlt
    go_enter Try.func25, Try.ntmps25
    go_wp2_with first
      | (go_at_call 31; refine (specCounterOk_c l _ _ _ _ B HL.out hB).mono ?_; rintro e w1 ⟨rfl, hb1⟩; have d1 := below_some hb1 c1; have d3 := below_some hb1 c3; have HL1 := Lib.hid (HL.out.keep (w' := w1) (fun b hb => hb1.block b (by omega))); have hB1 := Nat.le_trans hB hb1.size)
      | (go_at_call 32; refine (l16Size_c _ _).mono ?_; rintro e w2 ⟨rfl, rfl⟩)
    refine wp_region_und (by kernel_rfl) (by kernel_rfl) ?_
    repeat (go_big_quiet_step ((first | (go_at_call 35; exact und_call _ (l16Rise_c l _ _ _ _ B (HL1.out.und hB1 _) (Nat.le_trans hB1 (und_size _)) HTm.out)))))
    refine wpQuiet_nil ?_
    intro X hX
    go_wp2
    go_ret2
    exact ⟨by rw [HF.out]; rfl, below_step hb1 hX⟩
end Go.Proofs.Ytjpmnegpkpimhaa
