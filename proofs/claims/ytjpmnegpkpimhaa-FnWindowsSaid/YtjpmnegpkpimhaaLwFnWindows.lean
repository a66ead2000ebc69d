/-
  The walk of the law on windows. No conditions.
-/
import Derived.Test.YtjpmnegpkpimhaaDc
import Derived.Test.YtjpmnegpkpimhaaLwN
import Derived.Test.YtjpmnegpkpimhaaPx
import Derived.Test.YtjpmnegpkpimhaaWo
import Derived.Test.YtjpmnegpkpimhaaWf
import Derived.Deep.DeepCutAuto
namespace Go.Proofs.Ytjpmnegpkpimhaa
open Go.RowKit
attribute [local go_sem] und_cell World.cell?_alloc_some
namespace Pl
/-- what the law asks of the windows -/
structure WinLaw (l : List Sample) (size : Int) (W : List Window) : Prop where
  ok : counterOk l = true
  size0 : 1 ≤ size
  size1 : size ≤ 1000000
  len : W.length ≤ 40
  bd : ∀ v ∈ W, 0 ≤ v.Rise ∧ v.Rise ≤ 40000000000 ∧ 0 ≤ v.Count ∧ v.Count ≤ 40 ∧ 0 ≤ v.First ∧ v.First ≤ 1000000000 ∧ 0 ≤ v.Last ∧ v.Last ≤ 1000000000
  frm : ∀ v ∈ W, 0 ≤ v.From ∧ v.From ≤ 1000000000
  cnt : wcnt W W.length = l.length
  rise : wrise W W.length = Pl.rise l
  far : ∀ (i : Nat) v u, W[i]? = some v → W[i + 1]? = some u → v.From + size ≤ u.From
theorem windTo_from {size : Int} {l : List Sample} (hc : counterOk l = true) (hs : 1 ≤ size) : ∀ (k : Nat), k ≤ l.length → ∀ v ∈ windTo size l k, 0 ≤ v.From ∧ v.From ≤ 1000000000
  | 0, _, v, hv => by simp [windTo] at hv
  | k + 1, hk, v, hv => by
    have hx := List.getElem?_eq_getElem (show k < l.length by omega)
    generalize l[k] = x at hx
    have hb := counter_at hc hx
    have hq1 : 0 ≤ x.At / size * size := Int.mul_nonneg (Int.ediv_nonneg (by omega) (by omega)) (by omega)
    have hq2 : x.At / size * size ≤ x.At := Int.ediv_mul_le _ (by omega)
    have ih := windTo_from hc hs k (by omega)
    have hnew : ∀ v, v = wnew size (sampleAt l k) → 0 ≤ v.From ∧ v.From ≤ 1000000000 := by
      rintro v rfl
      rw [sampleAt_of hx]
      show 0 ≤ x.At / size * size ∧ x.At / size * size ≤ 1000000000
      omega
    rw [windTo] at hv
    split at hv
    · rcases List.mem_append.1 hv with h | h
      · exact ih v h
      · exact hnew v (by simpa using h)
    · rename_i u hu
      split at hv
      · rcases List.mem_append.1 hv with h | h
        · exact ih v (by rw [List.dropLast_eq_take] at h; exact List.mem_of_mem_take h)
        · have : v = wadd u (val l (k - 1)) (sampleAt l k) := by simpa using h
          subst this
          exact ih u (List.mem_of_getLast? hu)
      · rcases List.mem_append.1 hv with h | h
        · exact ih v h
        · exact hnew v (by simpa using h)
theorem winLaw {l : List Sample} {size : Int} {W : List Window} (h : windowsOf l size = (W, true)) : WinLaw l size W := by
  unfold windowsOf at h
  split at h
  · rename_i hc
    rw [Bool.and_eq_true] at hc
    have hs := per_iff.1 hc.2
    injection h with h _
    subst h
    have hl := counterOk_len hc.1
    have hw := winOk hc.1 hs.1 l.length (Nat.le_refl _)
    have hb := windTo_bd (size := size) (tame_of hc.1) l.length
    refine ⟨hc.1, hs.1, hs.2, Nat.le_trans (windTo_len _) hl, fun v hv => ?_, windTo_from hc.1 hs.1 _ (Nat.le_refl _), hw.cnt, hw.rise, hw.far⟩
    have := hb v hv
    omega
  · injection h with _ h; cases h
theorem fillLaw {l : List Sample} {step : Int} {f : List Sample} (h : fillGaps l step = (f, true)) (h0 : 0 < f.length) : 1 ≤ step ∧ step ≤ 1000000 ∧ f.length ≤ 40 ∧ (∀ (i : Nat) x, f[i]? = some x → 0 ≤ x.At ∧ x.At ≤ 3000000000 ∧ x.At % step = 0) ∧ (∀ (i : Nat) x y, f[i]? = some x → f[i + 1]? = some y → x.At + step = y.At) := by
  unfold fillGaps at h
  split at h
  · rename_i hc
    rw [Bool.and_eq_true] at hc
    have hs := per_iff.1 hc.2
    split at h
    · injection h with h _
      subst h
      simp at h0
    · rename_i hl
      split at h
      · injection h with _ h; cases h
      · rename_i hov
        injection h with h _
        have hx0 := List.getElem?_eq_getElem (show 0 < l.length by omega)
        have hb0 := counter_at hc.1 hx0
        have hsa : sampleAt l 0 = l[0] := sampleAt_of hx0
        have ha : fillAt l step = (l[0].At + step - 1) / step * step := by unfold fillAt; rw [hsa]
        have ha0 : 0 ≤ fillAt l step := by rw [ha]; exact Int.mul_nonneg (Int.ediv_nonneg (by omega) (by omega)) (by omega)
        have ha1 : fillAt l step ≤ l[0].At + step - 1 := by rw [ha]; exact Int.ediv_mul_le _ (by omega)
        have hlen : f.length = fillMany (fillAt l step) (sampleAt l (l.length - 1)).At step := by rw [← h, fillTo_len]
        have hle : fillAt l step ≤ (sampleAt l (l.length - 1)).At := by
          apply Classical.byContradiction
          intro hn
          rw [hlen] at h0
          unfold fillMany at h0
          rw [if_neg hn] at h0
          omega
        have hm : f.length ≤ 40 := by
          rw [hlen]
          unfold fillMany
          rw [if_pos hle]
          have h40 : ¬ ((sampleAt l (l.length - 1)).At - fillAt l step) / step + 1 > 40 := fun h => hov ((fill_over (show 0 < step by omega) hle).1 h)
          generalize ((sampleAt l (l.length - 1)).At - fillAt l step) / step = q at h40 ⊢
          omega
        have hget : ∀ (i : Nat) x, f[i]? = some x → x.At = fillAt l step + i * step := fun i x hx => by rw [← h] at hx; exact fillTo_get hx
        refine ⟨hs.1, hs.2, hm, fun i x hx => ?_, fun i x y hx hy => ?_⟩
        · have hi := (List.getElem?_eq_some_iff.1 hx).1
          have h1 : 0 ≤ (i : Int) * step := Int.mul_nonneg (by omega) (by omega)
          have h2 : (i : Int) * step ≤ 40 * 1000000 := Int.mul_le_mul (by omega) (by omega) (by omega) (by omega)
          rw [hget i x hx]
          refine ⟨by omega, by omega, ?_⟩
          rw [ha, ← Int.add_mul]
          exact Int.mul_emod_left _ _
        · rw [hget i x hx, hget (i + 1) y hy]
          push_cast
          rw [Int.add_mul, Int.one_mul]; omega
  · injection h with _ h; cases h
end Pl
set_option maxRecDepth 100000 in
set_option maxHeartbeats 4000000 in
theorem walk_FnWindows (A : Option Addr) (n c : Nat) (code : List Int) (A' : Option Addr) (n' c' : Nat) (more : List Int) (w : World) (hc : Mm.SlAt Mm.u8 w w.heap.size code A n c) (hm : Mm.SlAt Mm.u8 w w.heap.size more A' n' c') :
    Calls Try.prog 3 #[.slice A n c, .slice A' n' c'] w fun e w' => e = .returned (.bool true) ∧ Below w.heap.size w w' := by
  have HC := Lib.hid hc
  have HM := Lib.hid hm
  have hlc : n ≤ maxLen := Nat.le_trans hc.2.1 hc.2.2.1
  have hlm : n' ≤ maxLen := Nat.le_trans hm.2.1 hm.2.2.1
  unfold maxLen at hlc hlm
  clear hc hm
  by_cases hbig : (1048576 : Int) < wrap64 ((n : Int) + (n' : Int))
  · go_enter Try.func3, Try.ntmps3
    go_wp2
    go_ret
    exact ⟨rfl, Below.refl _ _⟩
  · go_enter Try.func3, Try.ntmps3
    go_upto_if 59 with first
      | (go_at_call 5; refine (DrawWindowsOf_c code _ _ _ _ w.heap.size HC.out (Nat.le_refl _)).mono ?_; rintro e w1 ⟨l, A1, n1, c1, size, rfl, hsz, hl, hb1⟩; (have HL1 := Lib.hid hl); (have HB1 := Lib.hid hb1); obtain ⟨W, ok, hW⟩ : ∃ W ok, Pl.windowsOf l size = (W, ok) := ⟨_, _, rfl⟩; (have HW := Lib.hid hW); clear hl hb1 hW)
      | (go_at_call 6; (have C1 := implWindowsOf_c l A1 n1 c1 size w1 w1.heap.size HL1.out (Nat.le_refl _)); rw [HW.out] at C1; refine C1.mono ?_; clear C1; rintro e w2 ⟨A2, n2, c2, fp2, rfl, hs2, hnd2, hnw2, hb2⟩; (have HL2 := Lib.hid (HL1.out.below hb2)); (have HW2 := Lib.hid (hs2.weak (B := w2.heap.size) hs2.olt)); (have HB2 := Lib.hid (below_step HB1.out hb2)); (have HBB := Lib.hid hb2.size); clear hs2 hnd2 hnw2 hb2)
      | (go_at_call 7; (have C1 := specWindowsOf_c l A1 n1 c1 size w2 w1.heap.size HL2.out HBB.out); rw [HW.out] at C1; refine C1.mono ?_; clear C1; rintro e w3 ⟨A3, n3, c3, fp3, rfl, hs3, hnd3, hnw3, hb3⟩; obtain rfl : n3 = n2 := (hs3.weak (B := w3.heap.size) hs3.olt).1.symm.trans HW2.out.1; (have HL3 := Lib.hid (HL2.out.keep fun b hb => hb3.block b (Nat.lt_of_lt_of_le hb HBB.out))); (have HV3 := Lib.hid (HW2.out.below hb3)); (have HW3 := Lib.hid (hs3.weak (B := w3.heap.size) hs3.olt)); (have HB3 := Lib.hid (below_step HB2.out hb3)); (have hsz3 := hb3.size); clear hs3 hnd3 hnw3 hb3)
    have hn3 : n3 ≤ maxLen := Nat.le_trans HW2.out.2.1 HW2.out.2.2.1
    unfold maxLen at hn3
    go_wp2_with fail
    go_loopg [62] n3 (fun gg i wr => ∃ k : Nat, n3 - k ≤ gg ∧ k ≤ n3 ∧ i = .int .i64 k ∧ Below w3.heap.size w3 wr)
    case atStart => exact ⟨0, Nat.le_refl _, Nat.zero_le _, rfl, Below.refl _ _⟩
    case round =>
      obtain ⟨k, hgk, hk, rfl, hbel⟩ := hrel
      have HB := Lib.hid hbel
      by_cases hlt : k < n3
      · obtain ⟨x, b, off, hx, rfl, hb, -, -, -, -, -, d0, d1, d2, d3, d4⟩ := rWindow_get (HV3.out.keep fun b hb => hbel.block b (Nat.lt_of_lt_of_le hb hsz3)) hlt
        obtain ⟨y, b', off', hy, rfl, hb', -, -, -, -, -, d0', d1', d2', d3', d4'⟩ := rWindow_get (HW3.out.keep fun b hb => hbel.block b hb) hlt
        rw [hx] at hy
        injection hy with hy
        subst hy
        have f1 : (k : Int) < (n3 : Nat) := by omega
        have f2 : (0 : Int) ≤ (k : Nat) := by omega
        clear hx hbel
        go_wp2
        go_quiet (fail)
        go_wp2
        go_roundg (n3 - (k + 1))
        case measure => omega
        case rel => exact ⟨k + 1, Nat.le_refl _, by omega, by go_num, below_drewN HB.out _⟩
      · go_upto_if 75 with fail
        go_cut [12, 13] (fun _ _ wx => Below w3.heap.size w3 wx)
        case first =>
          cases ok
          · go_wp2_with fail
            go_meet
            exact HB.out
          · have WL := Lib.hid (Pl.winLaw HW.out)
            go_wp2_with fail
            go_loopg [12, 13, 78] n3 (fun gg s12 s13 i wz => ∃ k : Nat, n3 - k ≤ gg ∧ k ≤ n3 ∧ s12 = .int .i64 (Pl.wcnt W k) ∧ s13 = .int .i64 (Pl.wrise W k) ∧ i = .int .i64 k ∧ Below w3.heap.size w3 wz)
            case atStart => exact ⟨0, Nat.le_refl _, Nat.zero_le _, rfl, rfl, rfl, HB.out⟩
            case round =>
              obtain ⟨k, hgk, hk, rfl, rfl, rfl, hbel⟩ := hrel
              have HB := Lib.hid hbel
              have hsum := Pl.wsum_bd WL.out.bd k
              have hn40 : n3 ≤ 40 := by have := WL.out.len; have := HW2.out.1; omega
              by_cases hlt : k < n3
              · obtain ⟨x, b, off, hx, rfl, hb, g0, g1, g2, g3, g4, d0, d1, d2, d3, d4⟩ := rWindow_get (HV3.out.keep fun b hb => hbel.block b (Nat.lt_of_lt_of_le hb hsz3)) hlt
                have hxb := WL.out.bd x (List.mem_of_getElem? hx)
                have hxf := WL.out.frm x (List.mem_of_getElem? hx)
                have HCN := Lib.hid (Pl.wcnt_next hx)
                have f1 : (k : Int) < (n3 : Nat) := by omega
                have f2 : (0 : Int) ≤ (k : Nat) := by omega
                by_cases hk0 : k = 0
                · have HRN : Hid (Pl.wrise W (k + 1) = Pl.wrise W k + x.Rise) := by show _ = _; rw [hk0]; exact (Pl.wrise_zero (hk0 ▸ hx)).trans (by show _ = 0 + _; omega)
                  have f3 : ¬ (0 : Int) < (k : Nat) := by omega
                  clear hx hbel hk0
                  go_wp2
                  go_roundg (n3 - (k + 1))
                  case measure => omega
                  case rel => exact ⟨k + 1, Nat.le_refl _, by omega, by rw [HCN.out], by rw [HRN.out], by go_num, below_step HB.out (below_new (Below.refl _ _) _)⟩
                · obtain ⟨y, hy, hyb, _, _, _, _, _, p0, p1, p2, p3, p4⟩ := rWindow_get' (HV3.out.keep fun b hb => hbel.block b (Nat.lt_of_lt_of_le hb hsz3)) (show k - 1 < n3 by omega)
                  have HRN := Lib.hid (Pl.wrise_next hx hy (by omega))
                  have hyb2 := WL.out.bd y (List.mem_of_getElem? hy)
                  have hyf := WL.out.frm y (List.mem_of_getElem? hy)
                  have hsz0 := WL.out.size0
                  have hsz1 := WL.out.size1
                  have hfar := WL.out.far (k - 1) y x hy (by rw [show k - 1 + 1 = k by omega]; exact hx)
                  have f3 : (0 : Int) < (k : Nat) := by omega
                  have f4 : (0 : Int) ≤ (k : Int) - 1 := by omega
                  have f5 : (k : Int) - 1 < (n3 : Nat) := by omega
                  have f6 : ((k : Int) - 1).toNat = k - 1 := by omega
                  have f7 : IntKind.i64.wrap ((k : Int) - 1) = (k : Int) - 1 := IntWalk.i64_in _ (by omega)
                  have f8 : 1 ≤ k := by omega
                  have f9 : (k : Int) ≤ (n3 : Nat) := by omega
                  have f10 : IntKind.i64.wrap (x.First - y.Last) = x.First - y.Last := IntWalk.i64_in _ (by omega)
                  have f11 : IntKind.i64.wrap (y.From + size) = y.From + size := IntWalk.i64_in _ (by omega)
                  have f12 : ¬ x.From < y.From + size := by omega
                  have p0' := below_some (below_new (Below.refl wr.heap.size wr) (.cells #[.int .i64 x.From, .int .i64 x.First, .int .i64 x.Last, .int .i64 x.Count, .int .i64 x.Rise] 30)) p0
                  have p2' := below_some (below_new (Below.refl wr.heap.size wr) (.cells #[.int .i64 x.From, .int .i64 x.First, .int .i64 x.Last, .int .i64 x.Count, .int .i64 x.Rise] 30)) p2
                  have KX := Mm.Blk.new wr 30 [.int .i64 x.From, .int .i64 x.First, .int .i64 x.Last, .int .i64 x.Count, .int .i64 x.Rise]
                  have q0 := KX.cell (i := 0) rfl
                  have q1 := KX.cell (i := 1) rfl
                  have hd0 : Hid (Below w3.heap.size w3 (wr.alloc (.cells #[.int .i64 x.From, .int .i64 x.First, .int .i64 x.Last, .int .i64 x.Count, .int .i64 x.Rise] 30))) := below_step HB.out (below_new (Below.refl _ _) _)
                  clear hx hbel hy KX hfar hk0
                  by_cases hst : x.First - y.Last < 0
                  · have hst2 : Hid (Pl.step y.Last x.First = x.First) := if_pos (by omega)
                    go_wp2
                    go_quiet (fail)
                    go_wp2
                    go_quiet (fail)
                    go_wp2
                    go_roundg (n3 - (k + 1))
                    case measure => omega
                    case rel => exact ⟨k + 1, Nat.le_refl _, by omega, by rw [HCN.out], by rw [HRN.out, hst2.out], by go_num, below_drewN hd0.out _⟩
                  · have hst2 : Hid (Pl.step y.Last x.First = x.First - y.Last) := if_neg (by omega)
                    go_wp2
                    go_quiet (fail)
                    go_wp2
                    go_quiet (fail)
                    go_wp2
                    go_roundg (n3 - (k + 1))
                    case measure => omega
                    case rel => exact ⟨k + 1, Nat.le_refl _, by omega, by rw [HCN.out], by rw [HRN.out, hst2.out], by go_num, below_drewN hd0.out _⟩
              · have hkn : k = n3 := by omega
                have hl3 := HW2.out.1
                have E1 : Hid (Pl.wcnt W k = n1) := by show _ = _; rw [hkn, ← hl3, WL.out.cnt, HL1.out.1]
                have E2 : Hid (Pl.wrise W k = Pl.rise l) := by show _ = _; rw [hkn, ← hl3, WL.out.rise]
                have E3 : Hid (Pl.riseOf l = (Pl.rise l, true)) := if_pos WL.out.ok
                rw [E1.out, E2.out]
                clear hsum
                go_wp2_with (go_at_call 8; (have C1 := implRiseOf_c l A1 n1 c1 wr w1.heap.size (HL3.out.keep fun b hb => HB.out.block b (by have := HBB.out; omega)) (by have := HBB.out; have := HB.out.size; omega)); rw [E3.out] at C1; unfold Pl.ret2 at C1; refine C1.mono ?_; clear C1; rintro e w5 ⟨rfl, hb5⟩)
                go_meet
                exact below_step HB.out hb5
        case rest =>
          have HX := Lib.hid (below_step HB3.out hcut)
          have hB0 : w.heap.size ≤ wc.heap.size := HX.out.size
          clear hcut
          go_upto_if 164 with first
            | (go_at_call 9; refine (DrawFillGaps_c more _ _ _ _ w.heap.size (HM.out.keep fun b hb => HX.out.block b hb) hB0).mono ?_; rintro e w5 ⟨l5, A5, n5, c5, step, rfl, hsz5, hl, hb1⟩; (have HL5 := Lib.hid hl); (have HB5 := Lib.hid (below_step HX.out hb1)); obtain ⟨F, ok5, hW⟩ : ∃ F ok5, Pl.fillGaps l5 step = (F, ok5) := ⟨_, _, rfl⟩; (have HF := Lib.hid hW); clear hl hb1 hW)
            | (go_at_call 10; (have C1 := implFillGaps_c l5 A5 n5 c5 step w5 w5.heap.size HL5.out (Nat.le_refl _)); rw [HF.out] at C1; refine C1.mono ?_; clear C1; rintro e w6 ⟨A6, n6, c6, fp6, rfl, hs2, hnd2, hnw2, hb2⟩; (have HL6 := Lib.hid (HL5.out.below hb2)); (have HF6 := Lib.hid (hs2.weak (B := w6.heap.size) hs2.olt)); (have HB6 := Lib.hid (below_step HB5.out hb2)); (have HBC := Lib.hid hb2.size); clear hs2 hnd2 hnw2 hb2)
            | (go_at_call 11; (have C1 := specFillGaps_c l5 A5 n5 c5 step w6 w5.heap.size HL6.out HBC.out); rw [HF.out] at C1; refine C1.mono ?_; clear C1; rintro e w7 ⟨A7, n7, c7, fp7, rfl, hs3, hnd3, hnw3, hb3⟩; obtain rfl : n7 = n6 := (hs3.weak (B := w7.heap.size) hs3.olt).1.symm.trans HF6.out.1; (have HF7 := Lib.hid (HF6.out.below hb3)); (have HG7 := Lib.hid (hs3.weak (B := w7.heap.size) hs3.olt)); (have HB7 := Lib.hid (below_step HB6.out hb3)); (have hsz7 := hb3.size); clear hs3 hnd3 hnw3 hb3)
            | (go_at_call 12; refine (sameSamples_c F A6 A7 n7 c6 c7 w7 w7.heap.size (HF7.out.more hsz7) HG7.out (Nat.le_refl _)).mono ?_; rintro e w8 ⟨rfl, hb8⟩; (have HF8 := Lib.hid ((HF7.out.more hsz7).below hb8)); (have HB8 := Lib.hid (below_step HB7.out hb8)); (have hsz8 := hb8.size); clear hb8)
          cases ok5
          · go_wp2
            go_ret
            exact ⟨rfl, HB8.out⟩
          · have hn7 : n7 ≤ maxLen := Nat.le_trans HF8.out.2.1 HF8.out.2.2.1
            unfold maxLen at hn7
            go_wp2_with fail
            go_loopg [168] n7 (fun gg i wr => ∃ k : Nat, n7 - k ≤ gg ∧ k ≤ n7 ∧ i = .int .i64 k ∧ Below w8.heap.size w8 wr)
            case atStart => exact ⟨0, Nat.le_refl _, Nat.zero_le _, rfl, Below.refl _ _⟩
            case round =>
              obtain ⟨k, hgk, hk, rfl, hbel⟩ := hrel
              have HB := Lib.hid hbel
              by_cases hlt : k < n7
              · obtain ⟨x, b, off, hx, rfl, hb, g0, g1, d0, d1⟩ := smp_get (HF8.out.keep fun b hb => hbel.block b (Nat.lt_of_lt_of_le hb hsz8)) hlt
                obtain ⟨hs0, hs1, h40, hat, hnx⟩ := Pl.fillLaw HF.out (by have := HF8.out.1; omega)
                obtain ⟨hx0, hx1, hx2⟩ := hat k x hx
                have f1 : (k : Int) < (n7 : Nat) := by omega
                have f2 : (0 : Int) ≤ (k : Nat) := by omega
                have f3 : (x.At % step != 0) = false := by simp [hx2]
                have f4 : step ≠ 0 := by omega
                have KX := Mm.Blk.new wr 37 [.int .i64 x.At, .int .i64 x.Value]
                have q0 := KX.cell (i := 0) rfl
                have hd0 : Hid (Below w8.heap.size w8 (wr.alloc (.cells #[.int .i64 x.At, .int .i64 x.Value] 37))) := below_step HB.out (below_new (Below.refl _ _) _)
                by_cases hk0 : k = 0
                · have f5 : decide ((0 : Int) < (k : Nat)) = false := by simp; omega
                  have f6 : decide (0 < k) = false := by simp; omega
                  clear hx hbel hat hnx hx2 KX hk0
                  go_wp2
                  go_quiet (fail)
                  go_wp2
                  go_roundg (n7 - (k + 1))
                  case measure => omega
                  case rel => exact ⟨k + 1, Nat.le_refl _, by omega, by go_num, below_drewN hd0.out _⟩
                · obtain ⟨y, hy, hyb, _, _, p0, p1⟩ := smp_get' (HF8.out.keep fun b hb => hbel.block b (Nat.lt_of_lt_of_le hb hsz8)) (show k - 1 < n7 by omega)
                  have hnx' := hnx (k - 1) y x hy (by rw [show k - 1 + 1 = k by omega]; exact hx)
                  have hyx := hat (k - 1) y hy
                  have f5 : decide ((0 : Int) < (k : Nat)) = true := by simp; omega
                  have f6 : decide (0 < k) = true := by simp; omega
                  have f7 : (0 : Int) ≤ (k : Int) - 1 := by omega
                  have f8 : (k : Int) - 1 < (n7 : Nat) := by omega
                  have f9 : ((k : Int) - 1).toNat = k - 1 := by omega
                  have f10 : IntKind.i64.wrap ((k : Int) - 1) = (k : Int) - 1 := IntWalk.i64_in _ (by omega)
                  have f11 : 1 ≤ k := by omega
                  have f12 : (k : Int) ≤ (n7 : Nat) := by omega
                  have f13 : IntKind.i64.wrap (y.At + step) = y.At + step := IntWalk.i64_in _ (by omega)
                  have f14 : (y.At + step != x.At) = false := by simp [hnx']
                  have p0' := below_some (below_new (Below.refl wr.heap.size wr) (.cells #[.int .i64 x.At, .int .i64 x.Value] 37)) p0
                  clear hx hbel hat hnx hx2 KX hk0 hy hnx' hyx
                  go_wp2
                  go_quiet (fail)
                  go_wp2
                  go_roundg (n7 - (k + 1))
                  case measure => omega
                  case rel => exact ⟨k + 1, Nat.le_refl _, by omega, by go_num, below_drewN hd0.out _⟩
              · go_wp2
                go_ret
                exact ⟨rfl, below_step HB8.out HB.out⟩
end Go.Proofs.Ytjpmnegpkpimhaa
