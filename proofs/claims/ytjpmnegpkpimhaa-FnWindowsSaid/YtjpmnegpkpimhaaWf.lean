/-
  Contracts: FillGaps. No conditions.
-/
import Derived.Test.YtjpmnegpkpimhaaWt
import Derived.Deep.LoopGhost
namespace Go.Proofs.Ytjpmnegpkpimhaa
open Go.RowKit
attribute [local go_sem] und_cell World.cell?_alloc_some
set_option maxRecDepth 100000 in
set_option maxHeartbeats 1000000 in
theorem implFillGaps_c (l : List Sample) (A : Option Addr) (n c : Nat) (step : Int) (w : World) (B : Nat) (hl : Mm.SlAt smp w B l A n c) (hB : B ≤ w.heap.size) :
    Calls Try.prog 10 #[.slice A n c, .int .i64 step] w (Mm.RetS2 smp 37 w (Pl.fillGaps l step).1 (Pl.fillGaps l step).2) := by
  have hlen : Hid (l.length = n) := hl.1
  have HL : Hid (Mm.SlAt smp w B l A n c) := hl
  clear hl
  cases hc : Pl.counterOk l
  · have HF : Hid (Pl.fillGaps l step = ([], false)) := if_neg (by rw [hc]; simp)
    go_enter Try.func10, Try.ntmps10
    go_wp2_with (go_at_call 28; refine (isCounter_c l _ _ _ _ B HL.out hB).mono ?_; rintro e w1 ⟨rfl, hb1⟩)
    rw [HF.out]
    go_ret2
    exact (Mm.Acc.nil hb1).ret
  cases hp : Pl.isIn step 1 1000000
  · have HF : Hid (Pl.fillGaps l step = ([], false)) := if_neg (by rw [hp]; simp)
    go_enter Try.func10, Try.ntmps10
    go_wp2_with first
      | (go_at_call 28; refine (isCounter_c l _ _ _ _ B HL.out hB).mono ?_; rintro e w1 ⟨rfl, hb1⟩)
      | (go_at_call 29; refine (within_c _ _ _ _).mono ?_; rintro e w2 ⟨rfl, rfl⟩)
    rw [HF.out]
    go_ret2
    exact (Mm.Acc.nil hb1).ret
  have hg : (Pl.counterOk l && Pl.isIn step 1 1000000) = true := by rw [hc, hp]; rfl
  have hn : n ≤ 40 := by have := Pl.counterOk_len hc; have := hlen.out; omega
  by_cases h0 : n = 0
  · have HF : Hid (Pl.fillGaps l step = ([], true)) := by
      show _ = _
      unfold Pl.fillGaps
      rw [if_pos hg, if_pos (by rw [hlen.out]; exact h0)]
    clear hg
    subst h0
    go_enter Try.func10, Try.ntmps10
    go_wp2_with first
      | (go_at_call 28; refine (isCounter_c l _ _ _ _ B HL.out hB).mono ?_; rintro e w1 ⟨rfl, hb1⟩)
      | (go_at_call 29; refine (within_c _ _ _ _).mono ?_; rintro e w2 ⟨rfl, rfl⟩)
    rw [HF.out]
    go_ret2
    exact (Mm.Acc.nil hb1).ret
  have hpb := Pl.per_iff.1 hp
  obtain ⟨x, b, off, hx, rfl, hb, _, _, c1, _⟩ := smp_get HL.out (show n - 1 < n by omega)
  obtain ⟨y, hy, _, _, _, c30, _⟩ := smp_get' HL.out (show 0 < n by omega)
  have c3 : w.cell? ⟨b, off, none⟩ = some (.int .i64 y.At) := by simpa using c30
  clear c30
  have hxb := Pl.counter_at hc hx
  have hyb := Pl.counter_at hc hy
  have HF : Hid (Pl.fillGaps l step = if Pl.fillAt l step + 40 * step ≤ x.At then ([], false) else (Pl.fillTo l (Pl.fillAt l step) step (Pl.fillMany (Pl.fillAt l step) x.At step), true)) := by
    show _ = _
    unfold Pl.fillGaps
    rw [if_pos hg, if_neg (by rw [hlen.out]; exact h0), Pl.sampleAt_of (by rw [hlen.out]; exact hx)]
  have hfa : Hid (Pl.fillAt l step = (y.At + step - 1) / step * step) := by
    show _ = _
    unfold Pl.fillAt
    rw [Pl.sampleAt_of hy]
  have hq1 : 0 ≤ (y.At + step - 1) / step * step := Int.mul_nonneg (Int.ediv_nonneg (by omega) (by omega)) (by omega)
  have hq2 : (y.At + step - 1) / step * step ≤ y.At + step - 1 := Int.ediv_mul_le _ (by omega)
  have hq3 : 0 ≤ (y.At + step - 1) / step := Int.ediv_nonneg (by omega) (by omega)
  have hq4 : (y.At + step - 1) / step ≤ y.At + step - 1 := Int.ediv_le_self _ (by omega)
  clear hg hx hy
  have hn0 : ((n : Int) == 0) = false := by simp; omega
  go_enter Try.func10, Try.ntmps10
  go_wp2_with first
    | (go_at_call 28; refine (isCounter_c l _ _ _ _ B HL.out hB).mono ?_; rintro e w1 ⟨rfl, hb1⟩; have d1 := below_some hb1 c1; have d3 := below_some hb1 c3)
    | (go_at_call 29; refine (within_c _ _ _ _).mono ?_; rintro e w2 ⟨rfl, rfl⟩)
  have hsw := hb1.size
  go_loopg [6, 7, 8] (x.At + 1 - (y.At + step - 1) / step * step).toNat (fun g o kk i wr => ∃ (j k : Nat) (at_ : Int), (x.At + 1 - at_).toNat ≤ g ∧ i = .int .i64 at_ ∧ kk = .int .i64 k ∧ k < n ∧ j ≤ 40 ∧ 0 ≤ at_ ∧ at_ ≤ 2000000000 ∧ (j = 0 ∨ at_ - step ≤ x.At) ∧ Hid (at_ = Pl.fillAt l step + j * step) ∧ Hid (k = Pl.fillK l (Pl.fillAt l step) step j) ∧ Mm.Acc smp 37 w (Pl.fillTo l (Pl.fillAt l step) step j) o wr)
  case atStart => exact ⟨0, 0, _, Nat.le_refl _, rfl, rfl, by omega, by omega, hq1, by omega, .inl rfl, by show _ = _; rw [hfa.out]; simp, rfl, Mm.Acc.nil hb1⟩
  case round =>
    obtain ⟨j, k, at_, hgk, rfl, rfl, hk, hj, hat0, hat1, hor, HAT, HK, hacc⟩ := hrel
    obtain ⟨wo, rfl⟩ : ∃ wo : World, wo = wr := ⟨_, rfl⟩
    obtain ⟨go, rfl⟩ : ∃ go : Nat, go = gk := ⟨_, rfl⟩
    have hbel := hacc.bel
    have hln := Pl.fillTo_len l (Pl.fillAt l step) step j
    obtain ⟨A', n', c', rfl, hn', -, -, -⟩ := hacc.form
    have ej : j = n' := by omega
    subst ej
    have HLN := Lib.hid hln
    have HA := Lib.hid hacc
    have d1 := below_some hbel c1
    have hR := Lib.hid (HL.out.keep (w' := wo) (fun b hb => hbel.block b (by omega)))
    clear hn' hln hacc
    by_cases hle : at_ ≤ x.At
    · by_cases h40 : j = 40
      · subst h40
        have HZ : Hid (Pl.fillGaps l step = ([], false)) := by
          show _ = _
          rw [HF.out, if_pos (by have := HAT.out; push_cast at this; omega)]
        go_wp2
        rw [HZ.out]
        go_ret2
        exact (Mm.Acc.nil hbel).ret
      · have hsr := hbel.size
        go_wp2
        go_loopg [7] (n - k) (fun g kk wz => ∃ (k2 : Nat), n - k2 ≤ g ∧ kk = .int .i64 k2 ∧ k2 < n ∧ Hid (Pl.adv l at_ k2 = Pl.adv l at_ k) ∧ Below wo.heap.size wo wz)
        case atStart => exact ⟨k, Nat.le_refl _, rfl, hk, rfl, Below.refl _ _⟩
        case round =>
          obtain ⟨k2, hgk2, rfl, hk2, HA2, hbel2⟩ := hrel
          obtain ⟨wr2, rfl⟩ : ∃ wr2 : World, wr2 = wr := ⟨_, rfl⟩
          have hR2 := (hR.out.keep (w' := wr2) (fun b hb => hbel2.block b (by omega)))
          obtain ⟨u, hu, _, _, hu2, _, c8⟩ := smp_get' hR2 hk2
          by_cases hlt : k2 + 1 < n
          · obtain ⟨z, hz, _, _, _, c5, _⟩ := smp_get' hR2 hlt
            have hg1 : decide ((k2 : Int) + 1 < (n : Int)) = true := by simp; omega
            have hg2 : decide (k2 + 1 < n) = true := by simp; omega
            by_cases hz2 : z.At ≤ at_
            · have HA3 := Lib.hid ((Pl.adv_go hz hz2).symm.trans HA2.out)
              clear hR2 hz hu
              go_wp2
              go_roundg (n - (k2 + 1))
              case measure => omega
              case rel => exact ⟨k2 + 1, Nat.le_refl _, by go_num, by omega, HA3, hbel2⟩
            · have HA3 := Lib.hid ((Pl.adv_stop hz hz2).symm.trans HA2.out)
              clear hz
              have HV : Hid (Pl.fillTo l (Pl.fillAt l step) step (j + 1) = Pl.fillTo l (Pl.fillAt l step) step j ++ [⟨at_, u.Value⟩]) := by
                show _ = _
                rw [Pl.fillTo, Pl.fillK, ← HK.out, ← HAT.out, ← HA3.out, Pl.val_of hu]
              have HK2 : Hid (k2 = Pl.fillK l (Pl.fillAt l step) step (j + 1)) := by
                show _ = _
                rw [Pl.fillK, ← HK.out, ← HAT.out, ← HA3.out]
              have HAT2 : Hid (at_ + step = Pl.fillAt l step + ((j + 1 : Nat) : Int) * step) := by
                show _ = _
                have := HAT.out
                push_cast
                rw [Int.add_mul, Int.one_mul]
                omega
              have HI := Lib.hid (show Mm.I64 at_ ∧ Mm.I64 u.Value from ⟨by unfold Mm.I64; omega, hu2⟩)
              obtain ⟨i0, hi, hz0, hz1, hz2⟩ := info_parts Try.infoSmp
              obtain ⟨l0, ho2, hnext⟩ := HA.out.push (W2 := wr2.alloc (.cells #[.int .i64 at_, .int .i64 u.Value] 37)) (x := ⟨at_, u.Value⟩) (below_new hbel2 _) (smp_own_mk HI.out) List.nodup_nil (fun b hb => by cases hb)
              rw [HLN.out] at ho2 hnext
              have HNX := Lib.hid hnext
              have hnews := Lib.hid (World.news_of_block (B := wr2.heap.size) (cs := #[.int .i64 at_, .int .i64 u.Value]) (t := 37) (fr := (0, 0)) (w := wr2.alloc (.cells #[.int .i64 at_, .int .i64 u.Value] 37)) (heap_alloc_new wr2 _))
              clear hnext hR2 hu
              go_wp2_with (at_builtin; refine wpList_append_lies _ (by rfl) _ _ _ (by rfl) 0 37 i0 _ 2 16 Try.underlying23 hi hz0 hz1 hz2 rfl (by omega) _ j l0 (by rfl) ho2 ⟨wr2.heap.size, 0, none⟩ 1 1 [.int .i64 at_, .int .i64 u.Value] (by rfl) (by rfl) hnews.out (by simp [Value.oneCell']) (by omega) (by unfold maxLen; omega) (by omega) (Nat.zero_le _) _ rfl ?_; intro gg cap w2 hown1 hgrow hat hlt')
              go_roundg ((x.At + 1 - (at_ + step)).toNat)
              case measure => omega
              case rel => exact ⟨j + 1, k2, at_ + step, Nat.le_refl _, by go_num, rfl, hk2, by omega, by omega, by omega, .inr (by omega), HAT2, HK2, by rw [HV.out]; exact HNX.out gg cap w2 hown1 hgrow hat⟩
          · have hg1 : decide ((k2 : Int) + 1 < (n : Int)) = false := by simp; omega
            have hg2 : decide (k2 + 1 < n) = false := by simp; omega
            have HA3 := Lib.hid ((Pl.adv_end (at_ := at_) (show ¬ k2 + 1 < l.length by rw [hlen.out]; exact hlt)).symm.trans HA2.out)
            have HV : Hid (Pl.fillTo l (Pl.fillAt l step) step (j + 1) = Pl.fillTo l (Pl.fillAt l step) step j ++ [⟨at_, u.Value⟩]) := by
              show _ = _
              rw [Pl.fillTo, Pl.fillK, ← HK.out, ← HAT.out, ← HA3.out, Pl.val_of hu]
            have HK2 : Hid (k2 = Pl.fillK l (Pl.fillAt l step) step (j + 1)) := by
              show _ = _
              rw [Pl.fillK, ← HK.out, ← HAT.out, ← HA3.out]
            have HAT2 : Hid (at_ + step = Pl.fillAt l step + ((j + 1 : Nat) : Int) * step) := by
              show _ = _
              have := HAT.out
              push_cast
              rw [Int.add_mul, Int.one_mul]
              omega
            have HI := Lib.hid (show Mm.I64 at_ ∧ Mm.I64 u.Value from ⟨by unfold Mm.I64; omega, hu2⟩)
            obtain ⟨i0, hi, hz0, hz1, hz2⟩ := info_parts Try.infoSmp
            obtain ⟨l0, ho2, hnext⟩ := HA.out.push (W2 := wr2.alloc (.cells #[.int .i64 at_, .int .i64 u.Value] 37)) (x := ⟨at_, u.Value⟩) (below_new hbel2 _) (smp_own_mk HI.out) List.nodup_nil (fun b hb => by cases hb)
            rw [HLN.out] at ho2 hnext
            have HNX := Lib.hid hnext
            have hnews := Lib.hid (World.news_of_block (B := wr2.heap.size) (cs := #[.int .i64 at_, .int .i64 u.Value]) (t := 37) (fr := (0, 0)) (w := wr2.alloc (.cells #[.int .i64 at_, .int .i64 u.Value] 37)) (heap_alloc_new wr2 _))
            clear hnext hR2 hu
            go_wp2_with (at_builtin; refine wpList_append_lies _ (by rfl) _ _ _ (by rfl) 0 37 i0 _ 2 16 Try.underlying23 hi hz0 hz1 hz2 rfl (by omega) _ j l0 (by rfl) ho2 ⟨wr2.heap.size, 0, none⟩ 1 1 [.int .i64 at_, .int .i64 u.Value] (by rfl) (by rfl) hnews.out (by simp [Value.oneCell']) (by omega) (by unfold maxLen; omega) (by omega) (Nat.zero_le _) _ rfl ?_; intro gg cap w2 hown1 hgrow hat hlt')
            go_roundg ((x.At + 1 - (at_ + step)).toNat)
            case measure => omega
            case rel => exact ⟨j + 1, k2, at_ + step, Nat.le_refl _, by go_num, rfl, hk2, by omega, by omega, by omega, .inr (by omega), HAT2, HK2, by rw [HV.out]; exact HNX.out gg cap w2 hown1 hgrow hat⟩
    · have HZ : Hid (Pl.fillGaps l step = (Pl.fillTo l (Pl.fillAt l step) step j, true)) := by
        have h1 := HAT.out
        have h2 : x.At < Pl.fillAt l step + (j : Int) * step := by omega
        have h3 : j = 0 ∨ Pl.fillAt l step + ((j : Int) - 1) * step ≤ x.At := by
          rcases hor with h | h
          · exact .inl h
          · refine .inr ?_
            rw [Int.sub_mul, Int.one_mul]
            omega
        have h4 : ¬ Pl.fillAt l step + 40 * step ≤ x.At := by
          have : (j : Int) * step ≤ 40 * step := Int.mul_le_mul_of_nonneg_right (by omega) (by omega)
          omega
        show _ = _
        rw [HF.out, if_neg h4, Pl.fillMany_eq (by omega) h2 h3]
      go_wp2
      rw [HZ.out]
      go_ret2
      exact HA.out.ret
set_option maxRecDepth 100000 in
set_option maxHeartbeats 1000000 in
theorem specFillGaps_c (l : List Sample) (A : Option Addr) (n c : Nat) (step : Int) (w : World) (B : Nat) (hl : Mm.SlAt smp w B l A n c) (hB : B ≤ w.heap.size) :
    Calls Try.prog 11 #[.slice A n c, .int .i64 step] w (Mm.RetS2 smp 37 w (Pl.fillGaps l step).1 (Pl.fillGaps l step).2) := by
  have hlen : Hid (l.length = n) := hl.1
  have HL : Hid (Mm.SlAt smp w B l A n c) := hl
  clear hl
  cases hc : Pl.counterOk l
  · have HF : Hid (Pl.fillGaps l step = ([], false)) := if_neg (by rw [hc]; simp)
    go_enter Try.func11, Try.ntmps11
    go_wp2_with (go_at_call 31; refine (specCounterOk_c l _ _ _ _ B HL.out hB).mono ?_; rintro e w1 ⟨rfl, hb1⟩)
    rw [HF.out]
    go_ret2
    exact (Mm.Acc.nil hb1).ret
  cases hp : Pl.isIn step 1 1000000
  · have HF : Hid (Pl.fillGaps l step = ([], false)) := if_neg (by rw [hp]; simp)
    go_enter Try.func11, Try.ntmps11
    go_wp2_with first
      | (go_at_call 31; refine (specCounterOk_c l _ _ _ _ B HL.out hB).mono ?_; rintro e w1 ⟨rfl, hb1⟩)
      | (go_at_call 32; refine (l16Size_c _ _).mono ?_; rintro e w2 ⟨rfl, rfl⟩)
    rw [HF.out]
    go_ret2
    exact (Mm.Acc.nil hb1).ret
  have hg : (Pl.counterOk l && Pl.isIn step 1 1000000) = true := by rw [hc, hp]; rfl
  have hn : n ≤ 40 := by have := Pl.counterOk_len hc; have := hlen.out; omega
  by_cases h0 : n = 0
  · have HF : Hid (Pl.fillGaps l step = ([], true)) := by
      show _ = _
      unfold Pl.fillGaps
      rw [if_pos hg, if_pos (by rw [hlen.out]; exact h0)]
    clear hg
    subst h0
    go_enter Try.func11, Try.ntmps11
    go_wp2_with first
      | (go_at_call 31; refine (specCounterOk_c l _ _ _ _ B HL.out hB).mono ?_; rintro e w1 ⟨rfl, hb1⟩)
      | (go_at_call 32; refine (l16Size_c _ _).mono ?_; rintro e w2 ⟨rfl, rfl⟩)
    rw [HF.out]
    go_ret2
    exact (Mm.Acc.nil hb1).ret
  have hpb := Pl.per_iff.1 hp
  obtain ⟨x, b, off, hx, rfl, hb, _, _, c1, _⟩ := smp_get HL.out (show n - 1 < n by omega)
  obtain ⟨y, hy, _, _, _, c30, _⟩ := smp_get' HL.out (show 0 < n by omega)
  have c3 : w.cell? ⟨b, off, none⟩ = some (.int .i64 y.At) := by simpa using c30
  clear c30
  have hxb := Pl.counter_at hc hx
  have hyb := Pl.counter_at hc hy
  have HF : Hid (Pl.fillGaps l step = if Pl.fillAt l step + 40 * step ≤ x.At then ([], false) else (Pl.fillTo l (Pl.fillAt l step) step (Pl.fillMany (Pl.fillAt l step) x.At step), true)) := by
    show _ = _
    unfold Pl.fillGaps
    rw [if_pos hg, if_neg (by rw [hlen.out]; exact h0), Pl.sampleAt_of (by rw [hlen.out]; exact hx)]
  have hfa : Hid (Pl.fillAt l step = (y.At + step - 1) / step * step) := by
    show _ = _
    unfold Pl.fillAt
    rw [Pl.sampleAt_of hy]
  have hq1 : 0 ≤ (y.At + step - 1) / step * step := Int.mul_nonneg (Int.ediv_nonneg (by omega) (by omega)) (by omega)
  have hq2 : (y.At + step - 1) / step * step ≤ y.At + step - 1 := Int.ediv_mul_le _ (by omega)
  have hq3 : 0 ≤ (y.At + step - 1) / step := Int.ediv_nonneg (by omega) (by omega)
  have hq4 : (y.At + step - 1) / step ≤ y.At + step - 1 := Int.ediv_le_self _ (by omega)
  clear hg hx hy
  have hn0 : ((n : Int) == 0) = false := by simp; omega
  have hd0 : (y.At + step - 1) / step * step ≤ x.At → 0 ≤ (x.At - (y.At + step - 1) / step * step) / step ∧ (x.At - (y.At + step - 1) / step * step) / step ≤ x.At := fun hh => ⟨Int.ediv_nonneg (by omega) (by omega), Int.le_trans (Int.ediv_le_self _ (by omega)) (by omega)⟩
  by_cases hov : (y.At + step - 1) / step * step ≤ x.At ∧ (x.At - (y.At + step - 1) / step * step) / step + 1 > 40
  · have HZ : Hid (Pl.fillGaps l step = ([], false)) := by
      show _ = _
      rw [HF.out, hfa.out, if_pos ((Pl.fill_over (by omega) hov.1).1 hov.2)]
    have hd1 := hd0 hov.1
    obtain ⟨hle0, hov2⟩ := hov
    obtain ⟨a0, ha0⟩ : ∃ a0, (y.At + step - 1) / step * step = a0 := ⟨_, rfl⟩
    obtain ⟨q0, hq0⟩ : ∃ q0, (x.At - (y.At + step - 1) / step * step) / step = q0 := ⟨_, rfl⟩
    have HA0 := Lib.hid ha0
    have HQ0 := Lib.hid hq0
    clear hd0 ha0 hq0 hfa HF
    go_enter Try.func11, Try.ntmps11
    go_wp2_with first
      | (go_at_call 31; refine (specCounterOk_c l _ _ _ _ B HL.out hB).mono ?_; rintro e w1 ⟨rfl, hb1⟩; have d1 := below_some hb1 c1; have d3 := below_some hb1 c3)
      | (go_at_call 32; refine (l16Size_c _ _).mono ?_; rintro e w2 ⟨rfl, rfl⟩)
    rw [HZ.out]
    go_ret2
    exact (Mm.Acc.nil hb1).ret
  have hqz : (y.At + step - 1) / step * step ≤ x.At → (x.At - (y.At + step - 1) / step * step) / step + 1 ≤ 40 := fun hh => by
    apply Classical.byContradiction
    intro hc'
    exact hov ⟨hh, by omega⟩
  clear hov
  have hq5 : (y.At + step - 1) / step * step ≤ x.At → (x.At - (y.At + step - 1) / step * step) / step + 1 ≤ 40 ∧ 0 ≤ (x.At - (y.At + step - 1) / step * step) / step := fun hh => ⟨hqz hh, (hd0 hh).1⟩
  have HQZ := Lib.hid hqz
  clear hqz hd0
  rcases Decidable.em ((y.At + step - 1) / step * step ≤ x.At) with hle0 | hle0
  all_goals
    first
      | (have hq6 := (hq5 hle0).1; have hq7 := (hq5 hle0).2; clear hq5)
      | (clear hq5)
    go_enter Try.func11, Try.ntmps11
    go_wp2_with first
      | (go_at_call 31; refine (specCounterOk_c l _ _ _ _ B HL.out hB).mono ?_; rintro e w1 ⟨rfl, hb1⟩; have d1 := below_some hb1 c1; have d3 := below_some hb1 c3)
      | (go_at_call 32; refine (l16Size_c _ _).mono ?_; rintro e w2 ⟨rfl, rfl⟩)
    have hsw := hb1.size
    go_loopg [6, 8, 9] (x.At + 1 - (y.At + step - 1) / step * step).toNat (fun g i o kk wr => ∃ (j k : Nat) (at_ : Int), (x.At + 1 - at_).toNat ≤ g ∧ i = .int .i64 at_ ∧ kk = .int .i64 k ∧ k < n ∧ j ≤ 40 ∧ 0 ≤ at_ ∧ at_ ≤ 2000000000 ∧ (j = 0 ∨ at_ - step ≤ x.At) ∧ Hid (at_ = Pl.fillAt l step + j * step) ∧ Hid (k = Pl.fillK l (Pl.fillAt l step) step j) ∧ Mm.Acc smp 37 w (Pl.fillTo l (Pl.fillAt l step) step j) o wr)
    case atStart => exact ⟨0, 0, _, Nat.le_refl _, rfl, rfl, by omega, by omega, hq1, by omega, .inl rfl, by show _ = _; rw [hfa.out]; simp, rfl, Mm.Acc.nil hb1⟩
    case round =>
      obtain ⟨j, k, at_, hgk, rfl, rfl, hk, hj, hat0, hat1, hor, HAT, HK, hacc⟩ := hrel
      obtain ⟨wo, rfl⟩ : ∃ wo : World, wo = wr := ⟨_, rfl⟩
      obtain ⟨go, rfl⟩ : ∃ go : Nat, go = gk := ⟨_, rfl⟩
      have hbel := hacc.bel
      have hln := Pl.fillTo_len l (Pl.fillAt l step) step j
      obtain ⟨A', n', c', rfl, hn', -, -, -⟩ := hacc.form
      have ej : j = n' := by omega
      subst ej
      have HLN := Lib.hid hln
      have HA := Lib.hid hacc
      have d1 := below_some hbel c1
      have hR := Lib.hid (HL.out.keep (w' := wo) (fun b hb => hbel.block b (by omega)))
      clear hn' hln hacc
      by_cases hle : at_ ≤ x.At
      · by_cases h40 : j = 40
        · exfalso
          have h1 := HAT.out
          rw [hfa.out, h40] at h1
          have h2 := (Pl.fill_over (a0 := (y.At + step - 1) / step * step) (last := x.At) (step := step) (by omega) (by omega)).2 (by push_cast at h1; omega)
          have h3 := HQZ.out (by omega)
          omega
        · have hsr := hbel.size
          go_wp2
          go_loopg [9] (n - k) (fun g kk wz => ∃ (k2 : Nat), n - k2 ≤ g ∧ kk = .int .i64 k2 ∧ k2 < n ∧ Hid (Pl.adv l at_ k2 = Pl.adv l at_ k) ∧ Below wo.heap.size wo wz)
          case atStart => exact ⟨k, Nat.le_refl _, rfl, hk, rfl, Below.refl _ _⟩
          case round =>
            obtain ⟨k2, hgk2, rfl, hk2, HA2, hbel2⟩ := hrel
            obtain ⟨wr2, rfl⟩ : ∃ wr2 : World, wr2 = wr := ⟨_, rfl⟩
            have hR2 := (hR.out.keep (w' := wr2) (fun b hb => hbel2.block b (by omega)))
            obtain ⟨u, hu, _, _, hu2, _, c8⟩ := smp_get' hR2 hk2
            by_cases hlt : k2 + 1 < n
            · obtain ⟨z, hz, _, _, _, c5, _⟩ := smp_get' hR2 hlt
              have hg1 : decide ((k2 : Int) + 1 < (n : Int)) = true := by simp; omega
              have hg2 : decide (k2 + 1 < n) = true := by simp; omega
              by_cases hz2 : z.At ≤ at_
              · have HA3 := Lib.hid ((Pl.adv_go hz hz2).symm.trans HA2.out)
                clear hR2 hz hu
                go_wp2
                go_roundg (n - (k2 + 1))
                case measure => omega
                case rel => exact ⟨k2 + 1, Nat.le_refl _, by go_num, by omega, HA3, hbel2⟩
              · have HA3 := Lib.hid ((Pl.adv_stop hz hz2).symm.trans HA2.out)
                clear hz
                have HV : Hid (Pl.fillTo l (Pl.fillAt l step) step (j + 1) = Pl.fillTo l (Pl.fillAt l step) step j ++ [⟨at_, u.Value⟩]) := by
                  show _ = _
                  rw [Pl.fillTo, Pl.fillK, ← HK.out, ← HAT.out, ← HA3.out, Pl.val_of hu]
                have HK2 : Hid (k2 = Pl.fillK l (Pl.fillAt l step) step (j + 1)) := by
                  show _ = _
                  rw [Pl.fillK, ← HK.out, ← HAT.out, ← HA3.out]
                have HAT2 : Hid (at_ + step = Pl.fillAt l step + ((j + 1 : Nat) : Int) * step) := by
                  show _ = _
                  have := HAT.out
                  push_cast
                  rw [Int.add_mul, Int.one_mul]
                  omega
                have HI := Lib.hid (show Mm.I64 at_ ∧ Mm.I64 u.Value from ⟨by unfold Mm.I64; omega, hu2⟩)
                obtain ⟨i0, hi, hz0, hz1, hz2⟩ := info_parts Try.infoSmp
                obtain ⟨l0, ho2, hnext⟩ := HA.out.push (W2 := wr2.alloc (.cells #[.int .i64 at_, .int .i64 u.Value] 37)) (x := ⟨at_, u.Value⟩) (below_new hbel2 _) (smp_own_mk HI.out) List.nodup_nil (fun b hb => by cases hb)
                rw [HLN.out] at ho2 hnext
                have HNX := Lib.hid hnext
                have hnews := Lib.hid (World.news_of_block (B := wr2.heap.size) (cs := #[.int .i64 at_, .int .i64 u.Value]) (t := 37) (fr := (0, 0)) (w := wr2.alloc (.cells #[.int .i64 at_, .int .i64 u.Value] 37)) (heap_alloc_new wr2 _))
                clear hnext hR2 hu
                go_wp2_with (at_builtin; refine wpList_append_lies _ (by rfl) _ _ _ (by rfl) 0 37 i0 _ 2 16 Try.underlying23 hi hz0 hz1 hz2 rfl (by omega) _ j l0 (by rfl) ho2 ⟨wr2.heap.size, 0, none⟩ 1 1 [.int .i64 at_, .int .i64 u.Value] (by rfl) (by rfl) hnews.out (by simp [Value.oneCell']) (by omega) (by unfold maxLen; omega) (by omega) (Nat.zero_le _) _ rfl ?_; intro gg cap w2 hown1 hgrow hat hlt')
                go_roundg ((x.At + 1 - (at_ + step)).toNat)
                case measure => omega
                case rel => exact ⟨j + 1, k2, at_ + step, Nat.le_refl _, by go_num, rfl, hk2, by omega, by omega, by omega, .inr (by omega), HAT2, HK2, by rw [HV.out]; exact HNX.out gg cap w2 hown1 hgrow hat⟩
            · have hg1 : decide ((k2 : Int) + 1 < (n : Int)) = false := by simp; omega
              have hg2 : decide (k2 + 1 < n) = false := by simp; omega
              have HA3 := Lib.hid ((Pl.adv_end (at_ := at_) (show ¬ k2 + 1 < l.length by rw [hlen.out]; exact hlt)).symm.trans HA2.out)
              have HV : Hid (Pl.fillTo l (Pl.fillAt l step) step (j + 1) = Pl.fillTo l (Pl.fillAt l step) step j ++ [⟨at_, u.Value⟩]) := by
                show _ = _
                rw [Pl.fillTo, Pl.fillK, ← HK.out, ← HAT.out, ← HA3.out, Pl.val_of hu]
              have HK2 : Hid (k2 = Pl.fillK l (Pl.fillAt l step) step (j + 1)) := by
                show _ = _
                rw [Pl.fillK, ← HK.out, ← HAT.out, ← HA3.out]
              have HAT2 : Hid (at_ + step = Pl.fillAt l step + ((j + 1 : Nat) : Int) * step) := by
                show _ = _
                have := HAT.out
                push_cast
                rw [Int.add_mul, Int.one_mul]
                omega
              have HI := Lib.hid (show Mm.I64 at_ ∧ Mm.I64 u.Value from ⟨by unfold Mm.I64; omega, hu2⟩)
              obtain ⟨i0, hi, hz0, hz1, hz2⟩ := info_parts Try.infoSmp
              obtain ⟨l0, ho2, hnext⟩ := HA.out.push (W2 := wr2.alloc (.cells #[.int .i64 at_, .int .i64 u.Value] 37)) (x := ⟨at_, u.Value⟩) (below_new hbel2 _) (smp_own_mk HI.out) List.nodup_nil (fun b hb => by cases hb)
              rw [HLN.out] at ho2 hnext
              have HNX := Lib.hid hnext
              have hnews := Lib.hid (World.news_of_block (B := wr2.heap.size) (cs := #[.int .i64 at_, .int .i64 u.Value]) (t := 37) (fr := (0, 0)) (w := wr2.alloc (.cells #[.int .i64 at_, .int .i64 u.Value] 37)) (heap_alloc_new wr2 _))
              clear hnext hR2 hu
              go_wp2_with (at_builtin; refine wpList_append_lies _ (by rfl) _ _ _ (by rfl) 0 37 i0 _ 2 16 Try.underlying23 hi hz0 hz1 hz2 rfl (by omega) _ j l0 (by rfl) ho2 ⟨wr2.heap.size, 0, none⟩ 1 1 [.int .i64 at_, .int .i64 u.Value] (by rfl) (by rfl) hnews.out (by simp [Value.oneCell']) (by omega) (by unfold maxLen; omega) (by omega) (Nat.zero_le _) _ rfl ?_; intro gg cap w2 hown1 hgrow hat hlt')
              go_roundg ((x.At + 1 - (at_ + step)).toNat)
              case measure => omega
              case rel => exact ⟨j + 1, k2, at_ + step, Nat.le_refl _, by go_num, rfl, hk2, by omega, by omega, by omega, .inr (by omega), HAT2, HK2, by rw [HV.out]; exact HNX.out gg cap w2 hown1 hgrow hat⟩
      · have HZ : Hid (Pl.fillGaps l step = (Pl.fillTo l (Pl.fillAt l step) step j, true)) := by
          have h1 := HAT.out
          have h2 : x.At < Pl.fillAt l step + (j : Int) * step := by omega
          have h3 : j = 0 ∨ Pl.fillAt l step + ((j : Int) - 1) * step ≤ x.At := by
            rcases hor with h | h
            · exact .inl h
            · refine .inr ?_
              rw [Int.sub_mul, Int.one_mul]
              omega
          have h4 : ¬ Pl.fillAt l step + 40 * step ≤ x.At := by
            have : (j : Int) * step ≤ 40 * step := Int.mul_le_mul_of_nonneg_right (by omega) (by omega)
            omega
          show _ = _
          rw [HF.out, if_neg h4, Pl.fillMany_eq (by omega) h2 h3]
        go_wp2
        rw [HZ.out]
        go_ret2
        exact HA.out.ret
end Go.Proofs.Ytjpmnegpkpimhaa
