/-
  Joined texts, in build order: Jv, Jx, Jz, M0, M1, Jy, M2, M3. Each part says what it proves; no conditions beyond those that a part names.
-/
import Derived.Test.YtbhmdnjammnlnaaGreatDoorZ07
import Derived.Deep.LoopGhost
set_option linter.unusedVariables false
set_option linter.unusedSimpArgs false
namespace Go.Proofs.YtbhmdnjammnlnaaGreatDoor
open Go.RowKit
attribute [local go_sem] und_cell cha_cell World.cell?_alloc_some
theorem Pl.LogOkR.zero {g : Log} (h : Pl.LogOkR g) (hb : g.Begin = 0) : Pl.LogOk g ∧ Pl.from0 g.Pieces = 0 := by
  refine ⟨h.1, ?_⟩
  have h1 := h.1.bg.1
  have h2 := h.1.from0.1
  rw [hb] at h1
  omega
theorem Pl.LogOkR.of {g : Log} (h : Pl.LogOk g) (hf : Pl.from0 g.Pieces = 0) (hb : g.Begin = 0) : Pl.LogOkR g :=
  ⟨h, fun p hp => by rw [hb]; have := Pl.from0_get hp; omega⟩
def gFoldH (x : Head) : Mm.Rel := fun _ _ v ds => ∃ A n c f, v = .agg #[.slice A n c, .int .i64 x.Offset] ∧ ds = [Mm.tow rHead x [.slice A n c, .int .i64 x.Offset] f]
theorem gFoldH_in {x : Head} {vals : List Value} {tk : List Mm.Thing} : ∃ v ds, gFoldH x vals tk v ds := ⟨_, _, none, 0, 0, [], rfl, rfl⟩
set_option maxRecDepth 100000 in
set_option maxHeartbeats 8000000 in
theorem goodHouse_c (h : House) (cs : List Value) (w : World) (B : Nat) (hh : rHouse.at_ w B h cs) (hB : B ≤ w.heap.size) (hsz : ∀ g, g ∈ h.Logs → ∀ p, p ∈ g.Pieces → p.Bytes.size ≤ 2000000) :
    Calls Tryz.prog 23 #[.agg cs.toArray] w (BoolAns (Pl.HouseOk h) w) := by
  obtain ⟨A0, n0, c0, A1, n1, c1, A2, n2, c2, rfl, r0, r1, r2⟩ := rHouse_at hh
  have R0 := Lib.hid r0
  have R1 := Lib.hid r1
  have R2 := Lib.hid r2
  have HSZ := Lib.hid hsz
  have HN0 : Hid (h.Logs.length = n0) := r0.1
  have HN1 : Hid (h.Heads.length = n1) := r1.1
  have HN2 : Hid (h.Kept.length = n2) := r2.1
  have HBW := Lib.hid hB
  have hnm0 : n0 ≤ maxLen := Nat.le_trans r0.2.1 r0.2.2.1
  have hnm1 : n1 ≤ maxLen := Nat.le_trans r1.2.1 r1.2.2.1
  have hnm2 : n2 ≤ maxLen := Nat.le_trans r2.2.1 r2.2.2.1
  unfold maxLen at hnm0 hnm1 hnm2
  clear hh r0 r1 r2 hB hsz
  obtain ⟨ga, hga⟩ : ∃ g, w.heap.size = g := ⟨_, rfl⟩
  obtain ⟨W0, hW0⟩ : ∃ W, w.alloc (.cells #[.slice A0 n0 c0, .slice A1 n1 c1, .slice A2 n2 c2] 27) = W := ⟨_, rfl⟩
  have KS0 := Lib.hid (((Mm.SepF.start w).alloc' hga 27 [.slice A0 n0 c0, .slice A1 n1 c1, .slice A2 n2 c2]).atW hW0)
  have d0 := KS0.out.cell (k := 0) 0 rfl rfl
  have d1 := KS0.out.cell (k := 1) 0 rfl rfl
  have d2 := KS0.out.cell (k := 2) 0 rfl rfl
  have HBL := Lib.hid KS0.out.bel0
  go_enter Tryz.func23, Tryz.ntmps23
  by_cases hn : 1 ≤ n0 ∧ n0 ≤ 3
  · obtain ⟨hn1, hn3⟩ := hn
    have hin : Pl.isIn (n0 : Int) 1 3 = true := by unfold Pl.isIn; simp; omega
    by_cases h1 : n1 = n0
    · by_cases h2 : n2 = n0
      · subst h1
        subst h2
        have hz : ((n2 : Int) != (n2 : Int)) = false := by simp
        go_upto_region 5 with (go_at_call 68; (with_reducible refine (l1In_isJ hin _).mono ?_); rintro e w' ⟨rfl, rfl⟩)
        clear d0 d1 d2 hin HBL hW0 hga hnm0 hnm1 hnm2
        obtain ⟨n0, rfl⟩ : ∃ n, n = n2 := ⟨_, rfl⟩
        go_loopg [31] n0 (fun gg i_ wr => ∃ (k : Nat), n0 - k ≤ gg ∧ k ≤ n0 ∧ i_ = .int .i64 (k : Nat) ∧ Hid (∀ i g a b, i < k → h.Logs[i]? = some g → h.Heads[i]? = some a → h.Kept[i]? = some b → ∃ l, Pl.PartOk n0 i g a b l) ∧ Hid (Mm.SepF [] w wr [Mm.tblk ga 27 [.slice A0 n0 c0, .slice A1 n0 c1, .slice A2 n0 c2]]))
        case atStart => exact ⟨0, by omega, by omega, rfl, (fun i g a b hi => absurd hi (by omega)), KS0.out⟩
        case round =>
          clear KS0
          obtain ⟨k, hgk, hk', rfl, HU, HS⟩ := hrel
          obtain ⟨W, rfl⟩ : ∃ W : World, W = wr := ⟨_, rfl⟩
          by_cases hlt : k < n0
          · have fc : (k : Int) < (n0 : Nat) := by omega
            have hbw := Lib.hid (fun b (hb : b < B) => HS.out.bel0.block b (by have := HBW.out; omega))
            obtain ⟨x, b0, o0, AP, mP, dP, hx, rfl, hb0, hrp, hbg, e0, e1⟩ := rLog_get (R0.out.keep (w' := W) hbw.out) hlt
            have HX := Lib.hid hx
            have HRP := Lib.hid hrp
            obtain ⟨bg, hbe⟩ : ∃ b : Int, x.Begin = b := ⟨_, rfl⟩
            rw [hbe] at e1 hbg
            have HBE := Lib.hid hbe
            have HPS := Lib.hid (HSZ.out x (List.mem_of_getElem? hx))
            clear hx hrp hbe
            obtain ⟨gl, hgl⟩ : ∃ g, W.heap.size = g := ⟨_, rfl⟩
            obtain ⟨W2, hW2⟩ : ∃ V, W.alloc (.cells #[.slice AP mP dP, .int .i64 bg] 80) = V := ⟨_, rfl⟩
            have KS2 := Lib.hid ((HS.out.alloc' hgl 80 [.slice AP mP dP, .int .i64 bg]).atW hW2)
            have hbw2 := Lib.hid (fun b (hb : b < B) => KS2.out.bel0.block b (by have := HBW.out; omega))
            have hBW2 : B ≤ W2.heap.size := by have := HBW.out; have := KS2.out.bel0.size; omega
            have HRP2 : Hid (Mm.SlAt rPiece W2 B x.Pieces AP mP dP) := HRP.out.keep fun b hb => (hbw2.out b hb).trans (hbw.out b hb).symm
            have CL := goodLog_c x [.slice AP mP dP, .int .i64 bg] W2 B (by rw [← HBE.out]; exact rLog_at_mk HRP2.out (by rw [HBE.out]; exact hbg)) hBW2 HPS.out
            go_upto_region 7 with fail
            clear hW2 hgl e0 e1 HS
            have q0 := KS2.out.cell (k := 0) 0 rfl rfl
            have q1 := KS2.out.cell (k := 1) 0 rfl rfl
            go_wp2_with fail
            refine CL.mono ?_
            rintro e w3 ⟨lok, rfl, hlok, hb3⟩
            obtain ⟨W3, rfl⟩ : ∃ W : World, W = w3 := ⟨_, rfl⟩
            have KS3 := Lib.hid (KS2.out.step hb3)
            have HLOK := Lib.hid hlok
            clear CL q0 q1 hb3 hlok KS2
            have q0 := KS3.out.cell (k := 0) 0 rfl rfl
            have q1 := KS3.out.cell (k := 1) 0 rfl rfl
            have d1 := KS3.out.cell (k := 1) 1 rfl rfl
            have d2 := KS3.out.cell (k := 2) 1 rfl rfl
            have HBL := Lib.hid KS3.out.bel0
            have hbw3 := Lib.hid (fun b (hb : b < B) => KS3.out.bel0.block b (by have := HBW.out; omega))
            have hBW3 : B ≤ W3.heap.size := by have := HBW.out; have := KS3.out.bel0.size; omega
            obtain ⟨hd, b1, o1, AH, mH, dH, hxh, hA1, -, hrh, hoi, h0, h1⟩ := rHead_get (R1.out.keep (w' := W3) hbw3.out) hlt
            subst hA1
            obtain ⟨kp, b2, o2, AK, mK, dK, hxk, hA2, -, hrk, hoj, k0, k1⟩ := rHead_get (R2.out.keep (w' := W3) hbw3.out) hlt
            subst hA2
            have HXH := Lib.hid hxh
            have HXK := Lib.hid hxk
            have HH3 := Lib.hid (rHead_at_mk (hrh.more hBW3) hoi)
            have HK3 := Lib.hid (rHead_at_mk (hrk.more hBW3) hoj)
            obtain ⟨oh, hoh⟩ : ∃ o : Int, hd.Offset = o := ⟨_, rfl⟩
            obtain ⟨ok, hok⟩ : ∃ o : Int, kp.Offset = o := ⟨_, rfl⟩
            rw [hoh] at h1 HH3
            rw [hok] at k1 HK3
            have HOH := Lib.hid hoh
            have HOK2 := Lib.hid hok
            clear hxh hxk hrh hrk hoi hoj hoh hok
            cases lok with
            | false =>
              have HNL : Hid (¬ Pl.HouseOk h) := fun hk => by
                obtain ⟨l, hl⟩ := hk.part k x hd kp HX.out HXH.out HXK.out
                (exact absurd (HLOK.out.2 (Pl.LogOkR.of hl.log hl.fr hl.bg)) (by simp))
              go_wp2
              go_ret
              exact BoolAns.no HNL.out HBL.out
            | true =>
              by_cases hbg0 : bg = 0
              · have z2 : (bg != 0) = false := by simp [hbg0]
                have HBG : Hid (x.Begin = 0) := HBE.out.trans hbg0
                have HLG := Lib.hid ((HLOK.out.1 (by simp)).zero HBG.out)
                clear hbg0
                have CH1 := goodHead_c hd [.slice AH mH dH, .int .i64 oh] W3 W3.heap.size HH3.out (Nat.le_refl _)
                clear HBL
                go_wp2_with fail
                refine CH1.mono ?_
                rintro e w5 ⟨hok1, rfl, hh1, hb5⟩
                obtain ⟨W5, rfl⟩ : ∃ W : World, W = w5 := ⟨_, rfl⟩
                have KS5 := Lib.hid (KS3.out.step hb5)
                replace h0 := below_some hb5 h0
                replace h1 := below_some hb5 h1
                replace k0 := below_some hb5 k0
                replace k1 := below_some hb5 k1
                have HB5 := Lib.hid hb5
                have HHD1 := Lib.hid hh1
                clear CH1 q0 q1 d1 d2 hb5 hh1 KS3
                have q0 := KS5.out.cell (k := 0) 0 rfl rfl
                have q1 := KS5.out.cell (k := 1) 0 rfl rfl
                have d1 := KS5.out.cell (k := 1) 1 rfl rfl
                have d2 := KS5.out.cell (k := 2) 1 rfl rfl
                have HBL := Lib.hid KS5.out.bel0
                cases hok1 with
                | false =>
                  have HNL : Hid (¬ Pl.HouseOk h) := fun hk => by
                    obtain ⟨l, hl⟩ := hk.part k x hd kp HX.out HXH.out HXK.out
                    (exact absurd (HHD1.out.2 (hl.hdf.ok hl.sayOk (by have := hl.len; omega)).1) (by simp))
                  go_wp2
                  go_ret
                  exact BoolAns.no HNL.out HBL.out
                | true =>
                  have CH2 := goodHead_c kp [.slice AK mK dK, .int .i64 ok] W5 W3.heap.size (rHead.keep HK3.out fun b hb => HB5.out.block b hb) HB5.out.size
                  clear HBL
                  go_wp2_with fail
                  refine CH2.mono ?_
                  rintro e w6 ⟨hok2, rfl, hh2, hb6⟩
                  obtain ⟨W6, rfl⟩ : ∃ W : World, W = w6 := ⟨_, rfl⟩
                  have KS6 := Lib.hid (KS5.out.step hb6)
                  replace h0 := below_some hb6 h0
                  replace h1 := below_some hb6 h1
                  replace k0 := below_some hb6 k0
                  replace k1 := below_some hb6 k1
                  have HB6 : Hid (Below W3.heap.size W3 W6) := HB5.out.trans (below_le hb6 HB5.out.size)
                  have HHD2 := Lib.hid hh2
                  clear CH2 q0 q1 d1 d2 hb6 hh2 KS5
                  have q0 := KS6.out.cell (k := 0) 0 rfl rfl
                  have q1 := KS6.out.cell (k := 1) 0 rfl rfl
                  have HBL := Lib.hid KS6.out.bel0
                  cases hok2 with
                  | false =>
                    have HNL : Hid (¬ Pl.HouseOk h) := fun hk => by
                      obtain ⟨l, hl⟩ := hk.part k x hd kp HX.out HXH.out HXK.out
                      (exact absurd (HHD2.out.2 (hl.kpf.ok hl.sayOk (by have := hl.len; omega)).1) (by simp))
                    go_wp2
                    go_ret
                    exact BoolAns.no HNL.out HBL.out
                  | true =>
                    have HKH : Hid (Pl.HeadOk hd) := HHD1.out.1 (by simp)
                    have HKK : Hid (Pl.HeadOk kp) := HHD2.out.1 (by simp)
                    have HAT : Hid (rLog.at_ W6 B x [.slice AP mP dP, .int .i64 bg]) := by rw [← HBE.out]; exact rLog_at_mk (HRP.out.keep (w' := W6) fun b hb => (HBL.out.block b (by have := HBW.out; omega)).trans (hbw.out b hb).symm) (by rw [HBE.out]; exact hbg)
                    have CS := l17Says_c x (k : Int) (n0 : Int) [.slice AP mP dP, .int .i64 bg] W6 B HAT.out (by have := HBL.out.size; have := HBW.out; omega) HLG.out.1 HBG.out ⟨by omega, by omega⟩
                    clear HBL
                    go_wp2_with fail
                    refine CS.mono ?_
                    rintro e w4 hans
                    clear CS q0 q1
                    cases hso : Pl.saysOf (n0 : Int) (k : Int) (Pl.lRecs x.Pieces) with
                    | none =>
                      rw [hso] at hans
                      obtain ⟨rfl, hb4⟩ := hans
                      have HSO := Lib.hid hso
                      have HNL : Hid (¬ Pl.HouseOk h) := fun hk => by
                        obtain ⟨l, hl⟩ := hk.part k x hd kp HX.out HXH.out HXK.out
                        (have h9 := hl.txt; rw [HN0.out, HSO.out] at h9; cases h9)
                      obtain ⟨W4, rfl⟩ : ∃ W : World, W = w4 := ⟨_, rfl⟩
                      have KS4 := Lib.hid (KS6.out.step hb4)
                      clear hb4 hso KS6
                      go_upto_region 10 with fail
                      refine wp_region_und (by kernel_rfl) (by kernel_rfl) ?_
                      repeat (go_big_quiet_step ((first | fail)))
                      refine wpQuiet_nil ?_
                      intro X hX
                      have HBL := Lib.hid (below_step KS4.out.bel0 hX)
                      clear hX
                      go_wp2
                      go_ret
                      exact BoolAns.no HNL.out HBL.out
                    | some r =>
                      rw [hso] at hans
                      obtain ⟨A9, n9, c9, f9, rfl, hn9, hs9⟩ := hans
                      obtain ⟨W4, rfl⟩ : ∃ W : World, W = w4 := ⟨_, rfl⟩
                      have KS4 := Lib.hid (KS6.out.join hs9)
                      have hb4 := hs9.bel0
                      replace h0 := below_some hb4 h0
                      replace h1 := below_some hb4 h1
                      replace k0 := below_some hb4 k0
                      replace k1 := below_some hb4 k1
                      have HSA := Lib.hid hso
                      have hsi := Pl.saysOf_iff.1 hso
                      have HSY : Hid (∀ y, y ∈ r → Pl.sayOk y = true) := fun y hy => (hsi.2 y hy).1
                      have hr60 : n9 ≤ 60 := by have h1 := HLG.out.1.sum; rw [hsi.1, List.length_map] at h1; omega
                      have HN9 : Hid (n9 = r.length) := hn9
                      have HB34 : Hid (Below W3.heap.size W3 W4) := HB6.out.trans (below_le hb4 HB6.out.size)
                      clear hs9 hso hsi hn9 hb4 KS6
                      have hofh := HKH.out.off
                      have hofk := HKK.out.off
                      rw [HOH.out] at hofh
                      rw [HOK2.out] at hofk
                      obtain ⟨mh, rfl⟩ : ∃ m : Nat, oh = (m : Int) := ⟨oh.toNat, by omega⟩
                      obtain ⟨mk, rfl⟩ : ∃ m : Nat, ok = (m : Int) := ⟨ok.toNat, by omega⟩
                      go_upto_region 10 with fail
                      have d1 := KS4.out.cell (k := 1) 2 rfl rfl
                      have d2 := KS4.out.cell (k := 2) 2 rfl rfl
                      by_cases hmh9 : mh ≤ n9
                      · have l1 : decide ((n9 : Int) < (mh : Nat)) = false := decide_eq_false (by omega)
                        have l1n : decide (n9 < mh) = false := decide_eq_false (by omega)
                        by_cases hmk : mk ≤ mh
                        · have l2 : decide ((mh : Int) < (mk : Nat)) = false := decide_eq_false (by omega)
                          have l2n : decide (mh < mk) = false := decide_eq_false (by omega)
                          refine wp_region_und (by kernel_rfl) (by kernel_rfl) ?_
                          repeat (go_big_quiet_step ((first | fail)))
                          refine wpQuiet_nil ?_
                          intro X hX
                          obtain ⟨V4, rfl⟩ : ∃ W : World, W = X := ⟨_, rfl⟩
                          have KS7 := Lib.hid (KS4.out.step hX)
                          replace h0 := below_some hX h0
                          replace h1 := below_some hX h1
                          replace k0 := below_some hX k0
                          replace k1 := below_some hX k1
                          have HB7 : Hid (Below W3.heap.size W3 V4) := HB34.out.trans (below_le hX HB34.out.size)
                          have HSR := Lib.hid (KS7.out.rdSl 0 rfl)
                          have hsz7 := HB7.out.size
                          have HHD : Hid (rHead.at_ V4 V4.heap.size hd [.slice AH mH dH, .int .i64 hd.Offset]) := by
                            have hA := rHead.keep HH3.out fun b hb => HB7.out.block b hb
                            obtain ⟨A8, n8, c8, hcs8, g8, i8⟩ := rHead_at hA
                            simp only [List.cons.injEq, Value.slice.injEq, and_true] at hcs8
                            obtain ⟨⟨rfl, rfl, rfl⟩, -⟩ := hcs8
                            exact rHead_at_mk (g8.more hsz7) i8
                          have HKP : Hid (rHead.at_ V4 V4.heap.size kp [.slice AK mK dK, .int .i64 kp.Offset]) := by
                            have hA := rHead.keep HK3.out fun b hb => HB7.out.block b hb
                            obtain ⟨A8, n8, c8, hcs8, g8, i8⟩ := rHead_at hA
                            simp only [List.cons.injEq, Value.slice.injEq, and_true] at hcs8
                            obtain ⟨⟨rfl, rfl, rfl⟩, -⟩ := hcs8
                            exact rHead_at_mk (g8.more hsz7) i8
                          clear d1 d2 hX KS4 l1 l1n l2 l2n
                          have d1 := KS7.out.cell (k := 1) 2 rfl rfl
                          have d2 := KS7.out.cell (k := 2) 2 rfl rfl
                          have hmk9 : mk ≤ n9 := by omega
                          obtain ⟨FH, hFH⟩ : ∃ F, Pl.foldS ⟨[], 0⟩ (r.take mh) = F := ⟨_, rfl⟩
                          obtain ⟨FG, hFG⟩ : ∃ F, Pl.foldS ⟨[], 0⟩ (r.take mk) = F := ⟨_, rfl⟩
                          have HFK : Hid (Pl.HeadOk FH) := by rw [← hFH]; exact Pl.fold_ok HSY.out (by have := HN9.out; omega) mh
                          have HGK : Hid (Pl.HeadOk FG) := by rw [← hFG]; exact Pl.fold_ok HSY.out (by have := HN9.out; omega) mk
                          have HFO : Hid (FH.Offset = (mh : Int)) := by rw [← hFH]; exact Pl.fold_off0 r mh (by have := HN9.out; omega)
                          have HGO : Hid (FG.Offset = (mk : Int)) := by rw [← hFG]; exact Pl.fold_off0 r mk (by have := HN9.out; omega)
                          have HFH := Lib.hid hFH
                          have HFG := Lib.hid hFG
                          obtain ⟨sb1, HQ1⟩ := exists_bool (hd = FH)
                          obtain ⟨sb2, HQ2⟩ := exists_bool (kp = FG)
                          have HSB1 := Lib.hid HQ1
                          have HSB2 := Lib.hid HQ2
                          have hm0 : (0 : Int) ≤ (mh : Nat) := by omega
                          have hmt : ((mh : Nat) : Int).toNat = mh := by omega
                          have hk00 : (0 : Int) ≤ (mk : Nat) := by omega
                          have hkt : ((mk : Nat) : Int).toNat = mk := by omega
                          have hnc : n9 ≤ c9 := HSR.out.2.1
                          have hmc : mh ≤ c9 := by omega
                          have hkc : mk ≤ c9 := by omega
                          have hcm : c9 ≤ maxLen := HSR.out.2.2.1
                          have HFHD : Hid (Pl.FoldOf hd r ↔ hd = FH) := ⟨fun hf => by
                              have h3 := (hf.ok HSY.out (by have := HN9.out; omega)).2.2
                              rw [HOH.out] at h3
                              exact h3.symm.trans HFH.out, fun e => ⟨mh, by have := HN9.out; omega, by rw [HFH.out]; exact e⟩⟩
                          have HFKP : Hid (Pl.FoldOf kp r ↔ kp = FG) := ⟨fun hf => by
                              have h3 := (hf.ok HSY.out (by have := HN9.out; omega)).2.2
                              rw [HOK2.out] at h3
                              exact h3.symm.trans HFG.out, fun e => ⟨mk, by have := HN9.out; omega, by rw [HFG.out]; exact e⟩⟩
                          clear hFH hFG HQ1 HQ2
                          go_upto_region 12 with fail
                          cases sb1 with
                          | false =>
                            refine Mm.wp_region_give_all (fun i => match i with | 13 => some (gFoldH FH) | 14 => some (Mm.gVal (.bool false)) | 30 => none | 31 => none | _ => none) (fun i => match i with | 14 => [13] | 31 => [30] | _ => []) (fun _ => []) (F := []) (D := fun w' => ∃ z : Und V4, w' = und V4 z) (fun X us h => Mm.sep_und h) (by kernel_rfl) (by kernel_rfl) (by kernel_rfl) (Mm.SepF.startDrew _) ?_
                            repeat (refine Mm.give_det (by rfl) (by rfl) (by rfl) (fun K hK => ?_); go_big_quiet_op; refine hK _ ?_; clear hK K)
                            refine Mm.give_op0 110 (by rfl) rfl (by rfl) (by rfl) (by rfl) (by rfl) gFoldH_in (fun others X hX => ?_) ?_
                            · go_wp2_with (go_at_call 73; refine (l17Fold_c (r.take mh) A9 mh c9 X V4.heap.size ((HSR.out.keep fun b hb => hX.bel0.block b hb).take hmh9) hX.chg.size (by omega)).mono ?_; rintro e w5 ⟨A5, n5, c5, f5, rfl, hs5⟩)
                              rw [HFH.out] at hs5 ⊢
                              exact ⟨rfl, rfl, _, ⟨A5, n5, c5, f5, rfl, rfl⟩, (hX.join hs5).toOw (R := rHead) (x := FH) (cs := [.slice A5 n5 c5, .int .i64 FH.Offset]) (fun W hw => rHead_own_mk hw (by rw [HFO.out]; unfold Mm.I64; omega))⟩
                            rintro v ds ⟨A5, n5, c5, f5, rfl, rfl⟩
                            simp only [Act.put, List.setIfInBounds_toArray, List.set_cons_succ, List.set_cons_zero]
                            repeat (refine Mm.give_det (by rfl) (by rfl) (by rfl) (fun K hK => ?_); go_big_quiet_op; refine hK _ ?_; clear hK K)
                            refine Mm.give_op1 111 13 (by rfl) rfl (by rfl) (by rfl) (by rfl) rfl (by rfl) _ rfl Mm.gVal_in (fun others X hX => ?_) ?_
                            · have hA := (rHead.keep HHD.out fun b hb => hX.bel0.block b hb)
                              obtain ⟨A8, n8, c8, hcs8, g8, i8⟩ := rHead_at hA
                              have hA' : rHead.at_ X X.heap.size hd [.slice AH mH dH, .int .i64 hd.Offset] := by
                                rw [hcs8]; exact rHead_at_mk (g8.more hX.chg.size) i8
                              have hB' : rHead.at_ X X.heap.size FH [.slice A5 n5 c5, .int .i64 FH.Offset] := hX.rdHead 0 rfl
                              have CSM := BoolAns.fix HSB1.out (l17Same_c hd FH [.slice AH mH dH, .int .i64 hd.Offset] [.slice A5 n5 c5, .int .i64 FH.Offset] X X.heap.size hA' hB' (Nat.le_refl _) HKH.out HFK.out)
                              rw [HOH.out] at CSM
                              change Calls Tryz.prog 72 #[.agg #[.slice AH mH dH, .int .i64 ((mh : Nat) : Int)], .agg #[.slice A5 n5 c5, .int .i64 FH.Offset]] X _ at CSM
                              go_wp2_with (go_at_call 72; refine CSM.mono ?_; rintro e w6 ⟨rfl, hb6⟩)
                              exact Mm.gvq_val hX.tail hb6 rfl rfl
                            rintro v ds ⟨rfl, rfl⟩
                            simp only [Act.put, List.setIfInBounds_toArray, List.set_cons_succ, List.set_cons_zero]
                            repeat (refine Mm.give_det (by rfl) (by rfl) (by rfl) (fun K hK => ?_); go_big_quiet_op; refine hK _ ?_; clear hK K)
                            repeat (refine Mm.give_skip (by rfl) ?_; simp only [Act.put, List.setIfInBounds_toArray, List.set_cons_succ, List.set_cons_zero])
                            repeat (refine Mm.give_det (by rfl) (by rfl) (by rfl) (fun K hK => ?_); go_big_quiet_op; refine hK _ ?_; clear hK K)
                            refine Mm.give_nil ?_
                            rintro X hX
                            have HBL := Lib.hid (below_step KS7.out.bel0 hX.bel0)
                            clear hX
                            have HNL : Hid (¬ Pl.HouseOk h) := fun hk => by
                              obtain ⟨l, hl⟩ := hk.part k x hd kp HX.out HXH.out HXK.out
                              (have e1 := hl.txt; rw [HN0.out] at e1; have e2 := Option.some.inj (HSA.out.symm.trans e1); have e3 := hl.hdf; rw [← e2] at e3; exact absurd (HSB1.out.2 (HFHD.out.1 e3)) (by simp))
                            go_wp2
                            go_ret
                            exact BoolAns.no HNL.out HBL.out
                          | true =>
                            refine Mm.wp_region_give_all (fun i => match i with | 13 => some (gFoldH FH) | 14 => some (Mm.gVal (.bool true)) | 30 => (some (gFoldH FG)) | 31 => (some (Mm.gVal (.bool sb2))) | _ => none) (fun i => match i with | 14 => [13] | 31 => [30] | _ => []) (fun _ => []) (F := []) (D := fun w' => ∃ z : Und V4, w' = und V4 z) (fun X us h => Mm.sep_und h) (by kernel_rfl) (by kernel_rfl) (by kernel_rfl) (Mm.SepF.startDrew _) ?_
                            repeat (refine Mm.give_det (by rfl) (by rfl) (by rfl) (fun K hK => ?_); go_big_quiet_op; refine hK _ ?_; clear hK K)
                            refine Mm.give_op0 110 (by rfl) rfl (by rfl) (by rfl) (by rfl) (by rfl) gFoldH_in (fun others X hX => ?_) ?_
                            · go_wp2_with (go_at_call 73; refine (l17Fold_c (r.take mh) A9 mh c9 X V4.heap.size ((HSR.out.keep fun b hb => hX.bel0.block b hb).take hmh9) hX.chg.size (by omega)).mono ?_; rintro e w5 ⟨A5, n5, c5, f5, rfl, hs5⟩)
                              rw [HFH.out] at hs5 ⊢
                              exact ⟨rfl, rfl, _, ⟨A5, n5, c5, f5, rfl, rfl⟩, (hX.join hs5).toOw (R := rHead) (x := FH) (cs := [.slice A5 n5 c5, .int .i64 FH.Offset]) (fun W hw => rHead_own_mk hw (by rw [HFO.out]; unfold Mm.I64; omega))⟩
                            rintro v ds ⟨A5, n5, c5, f5, rfl, rfl⟩
                            simp only [Act.put, List.setIfInBounds_toArray, List.set_cons_succ, List.set_cons_zero]
                            repeat (refine Mm.give_det (by rfl) (by rfl) (by rfl) (fun K hK => ?_); go_big_quiet_op; refine hK _ ?_; clear hK K)
                            refine Mm.give_op1 111 13 (by rfl) rfl (by rfl) (by rfl) (by rfl) rfl (by rfl) _ rfl Mm.gVal_in (fun others X hX => ?_) ?_
                            · have hA := (rHead.keep HHD.out fun b hb => hX.bel0.block b hb)
                              obtain ⟨A8, n8, c8, hcs8, g8, i8⟩ := rHead_at hA
                              have hA' : rHead.at_ X X.heap.size hd [.slice AH mH dH, .int .i64 hd.Offset] := by
                                rw [hcs8]; exact rHead_at_mk (g8.more hX.chg.size) i8
                              have hB' : rHead.at_ X X.heap.size FH [.slice A5 n5 c5, .int .i64 FH.Offset] := hX.rdHead 0 rfl
                              have CSM := BoolAns.fix HSB1.out (l17Same_c hd FH [.slice AH mH dH, .int .i64 hd.Offset] [.slice A5 n5 c5, .int .i64 FH.Offset] X X.heap.size hA' hB' (Nat.le_refl _) HKH.out HFK.out)
                              rw [HOH.out] at CSM
                              change Calls Tryz.prog 72 #[.agg #[.slice AH mH dH, .int .i64 ((mh : Nat) : Int)], .agg #[.slice A5 n5 c5, .int .i64 FH.Offset]] X _ at CSM
                              go_wp2_with (go_at_call 72; refine CSM.mono ?_; rintro e w6 ⟨rfl, hb6⟩)
                              exact Mm.gvq_val hX.tail hb6 rfl rfl
                            rintro v ds ⟨rfl, rfl⟩
                            simp only [Act.put, List.setIfInBounds_toArray, List.set_cons_succ, List.set_cons_zero]
                            repeat (refine Mm.give_det (by rfl) (by rfl) (by rfl) (fun K hK => ?_); go_big_quiet_op; refine hK _ ?_; clear hK K)
                            refine Mm.give_op0 127 (by rfl) rfl (by rfl) (by rfl) (by rfl) (by rfl) gFoldH_in (fun others X hX => ?_) ?_
                            · go_wp2_with (go_at_call 73; refine (l17Fold_c (r.take mk) A9 mk c9 X V4.heap.size ((HSR.out.keep fun b hb => hX.bel0.block b hb).take hmk9) hX.chg.size (by omega)).mono ?_; rintro e w5 ⟨A5, n5, c5, f5, rfl, hs5⟩)
                              rw [HFG.out] at hs5 ⊢
                              exact ⟨rfl, rfl, _, ⟨A5, n5, c5, f5, rfl, rfl⟩, (hX.join hs5).toOw (R := rHead) (x := FG) (cs := [.slice A5 n5 c5, .int .i64 FG.Offset]) (fun W hw => rHead_own_mk hw (by rw [HGO.out]; unfold Mm.I64; omega))⟩
                            rintro v ds ⟨A6, n6, c6, f6, rfl, rfl⟩
                            simp only [Act.put, List.setIfInBounds_toArray, List.set_cons_succ, List.set_cons_zero]
                            repeat (refine Mm.give_det (by rfl) (by rfl) (by rfl) (fun K hK => ?_); go_big_quiet_op; refine hK _ ?_; clear hK K)
                            refine Mm.give_op1 128 30 (by rfl) rfl (by rfl) (by rfl) (by rfl) rfl (by rfl) _ rfl Mm.gVal_in (fun others X hX => ?_) ?_
                            · have hA := (rHead.keep HKP.out fun b hb => hX.bel0.block b hb)
                              obtain ⟨A8, n8, c8, hcs8, g8, i8⟩ := rHead_at hA
                              have hA' : rHead.at_ X X.heap.size kp [.slice AK mK dK, .int .i64 kp.Offset] := by
                                rw [hcs8]; exact rHead_at_mk (g8.more hX.chg.size) i8
                              have hB' : rHead.at_ X X.heap.size FG [.slice A6 n6 c6, .int .i64 FG.Offset] := hX.rdHead 0 rfl
                              have CSM := BoolAns.fix HSB2.out (l17Same_c kp FG [.slice AK mK dK, .int .i64 kp.Offset] [.slice A6 n6 c6, .int .i64 FG.Offset] X X.heap.size hA' hB' (Nat.le_refl _) HKK.out HGK.out)
                              rw [HOK2.out] at CSM
                              change Calls Tryz.prog 72 #[.agg #[.slice AK mK dK, .int .i64 ((mk : Nat) : Int)], .agg #[.slice A6 n6 c6, .int .i64 FG.Offset]] X _ at CSM
                              go_wp2_with (go_at_call 72; refine CSM.mono ?_; rintro e w6 ⟨rfl, hb6⟩)
                              exact Mm.gvq_val hX.tail hb6 rfl rfl
                            rintro v ds ⟨rfl, rfl⟩
                            simp only [Act.put, List.setIfInBounds_toArray, List.set_cons_succ, List.set_cons_zero]
                            repeat (refine Mm.give_det (by rfl) (by rfl) (by rfl) (fun K hK => ?_); go_big_quiet_op; refine hK _ ?_; clear hK K)
                            refine Mm.give_nil ?_
                            rintro X hX
                            have KS8 := Lib.hid ((KS7.out.step hX.bel0).sel [2] (by decide) rfl)
                            clear hX
                            cases sb2 with
                            | false =>
                              have HBL := Lib.hid KS8.out.bel0
                              have HNL : Hid (¬ Pl.HouseOk h) := fun hk => by
                                obtain ⟨l, hl⟩ := hk.part k x hd kp HX.out HXH.out HXK.out
                                (have e1 := hl.txt; rw [HN0.out] at e1; have e2 := Option.some.inj (HSA.out.symm.trans e1); have e3 := hl.kpf; rw [← e2] at e3; exact absurd (HSB2.out.2 (HFKP.out.1 e3)) (by simp))
                              go_wp2
                              go_ret
                              exact BoolAns.no HNL.out HBL.out
                            | true =>
                              have HPK : Hid (Pl.PartOk n0 k x hd kp r) := ⟨HLG.out.1, HLG.out.2, HBG.out, HSA.out, HFHD.out.2 (HSB1.out.1 rfl), HFKP.out.2 (HSB2.out.1 rfl), by rw [HOH.out, HOK2.out]; omega⟩
                              have HUN : Hid (∀ i g a b, i < k + 1 → h.Logs[i]? = some g → h.Heads[i]? = some a → h.Kept[i]? = some b → ∃ l, Pl.PartOk n0 i g a b l) := fun i g a b hi hg ha hb => by
                                rcases Nat.lt_succ_iff_lt_or_eq.1 hi with h1 | rfl
                                · exact HU.out i g a b h1 hg ha hb
                                · rw [HX.out] at hg; rw [HXH.out] at ha; rw [HXK.out] at hb
                                  injection hg with hg; injection ha with ha; injection hb with hb
                                  subst hg; subst ha; subst hb
                                  exact ⟨r, HPK.out⟩
                              go_wp2
                              go_roundg (n0 - (k + 1))
                              case measure => omega
                              case rel => exact ⟨k + 1, Nat.le_refl _, by omega, by go_num, HUN.out, KS8.out⟩
                        · have l2 : decide ((mh : Int) < (mk : Nat)) = true := decide_eq_true (by omega)
                          have l2n : decide (mh < mk) = true := decide_eq_true (by omega)
                          have HNL : Hid (¬ Pl.HouseOk h) := fun hk => by
                            obtain ⟨l, hl⟩ := hk.part k x hd kp HX.out HXH.out HXK.out
                            (have h9 := hl.le; rw [HOH.out, HOK2.out] at h9; omega)
                          refine wp_region_und (by kernel_rfl) (by kernel_rfl) ?_
                          repeat (go_big_quiet_step ((first | fail)))
                          refine wpQuiet_nil ?_
                          intro X hX
                          have HBL := Lib.hid (below_step KS4.out.bel0 hX)
                          clear hX
                          go_wp2
                          go_ret
                          exact BoolAns.no HNL.out HBL.out
                      · have l1 : decide ((n9 : Int) < (mh : Nat)) = true := decide_eq_true (by omega)
                        have l1n : decide (n9 < mh) = true := decide_eq_true (by omega)
                        have HNL : Hid (¬ Pl.HouseOk h) := fun hk => by
                          obtain ⟨l, hl⟩ := hk.part k x hd kp HX.out HXH.out HXK.out
                          (have e1 := hl.txt; rw [HN0.out] at e1; have e2 := Option.some.inj (HSA.out.symm.trans e1); have e3 := (hl.hdf.ok hl.sayOk (by have := hl.len; omega)).2.1; rw [← e2, HOH.out] at e3; have := HN9.out; omega)
                        refine wp_region_und (by kernel_rfl) (by kernel_rfl) ?_
                        repeat (go_big_quiet_step ((first | fail)))
                        refine wpQuiet_nil ?_
                        intro X hX
                        have HBL := Lib.hid (below_step KS4.out.bel0 hX)
                        clear hX
                        go_wp2
                        go_ret
                        exact BoolAns.no HNL.out HBL.out
              · have z2 : (bg != 0) = true := by simpa using hbg0
                have HNL : Hid (¬ Pl.HouseOk h) := fun hk => by
                  obtain ⟨l, hl⟩ := hk.part k x hd kp HX.out HXH.out HXK.out
                  (exact hbg0 (HBE.out.symm.trans hl.bg))
                clear hbg0
                go_wp2
                go_ret
                exact BoolAns.no HNL.out HBL.out
          · obtain rfl : k = n0 := by omega
            have fc : ¬ ((k : Nat) : Int) < (k : Nat) := by omega
            have HY : Hid (Pl.HouseOk h) := ⟨by have := HN0.out; omega, by have := HN0.out; omega, by rw [HN1.out, HN0.out], by rw [HN2.out, HN0.out], fun i g a b hg ha hb => by rw [HN0.out]; exact HU.out i g a b (by have := (List.getElem?_eq_some_iff.1 hg).1; have := HN0.out; omega) hg ha hb⟩
            have HBL := Lib.hid HS.out.bel0
            go_wp2
            go_ret
            exact BoolAns.yes HY.out HBL.out
      · have hz : ((n2 : Int) != (n0 : Int)) = true := by simp; omega
        have HNL : Hid (¬ Pl.HouseOk h) := fun hk => h2 (by rw [← HN2.out, ← HN0.out]; exact hk.kpn)
        subst h1
        clear h2
        go_wp2_with (go_at_call 68; (with_reducible refine (l1In_isJ hin _).mono ?_); rintro e w' ⟨rfl, rfl⟩)
        go_ret
        exact BoolAns.no HNL.out HBL.out
    · have hz : ((n1 : Int) != (n0 : Int)) = true := by simp; omega
      have HNL : Hid (¬ Pl.HouseOk h) := fun hk => h1 (by rw [← HN1.out, ← HN0.out]; exact hk.hdn)
      clear h1
      go_wp2_with (go_at_call 68; (with_reducible refine (l1In_isJ hin _).mono ?_); rintro e w' ⟨rfl, rfl⟩)
      go_ret
      exact BoolAns.no HNL.out HBL.out
  · have hin : Pl.isIn (n0 : Int) 1 3 = false := by unfold Pl.isIn; simp; omega
    have HNL : Hid (¬ Pl.HouseOk h) := fun hk => hn ⟨by rw [← HN0.out]; exact hk.n1, by rw [← HN0.out]; exact hk.n3⟩
    clear hn
    go_wp2_with (go_at_call 68; (with_reducible refine (l1In_isJ hin _).mono ?_); rintro e w' ⟨rfl, rfl⟩)
    go_ret
    exact BoolAns.no HNL.out HBL.out
end Go.Proofs.YtbhmdnjammnlnaaGreatDoor

namespace Go.Proofs.YtbhmdnjammnlnaaGreatDoor
open Go.RowKit
attribute [local go_sem] und_cell cha_cell World.cell?_alloc_some
theorem Pl.szI_mem {α : Type} {f : α → Int} (h : ∀ x, 0 ≤ f x) : ∀ {l : List α} {x : α}, x ∈ l → f x ≤ Pl.sumI f l
  | y :: t, x, hx => by
    have h1 := Pl.sumI_nn h t
    have h2 := h y
    show f x ≤ f y + Pl.sumI f t
    rcases List.mem_cons.1 hx with rfl | hx
    · omega
    · have := Pl.szI_mem h hx; omega
theorem Pl.house_bytes {h : House} (hs : Pl.szHouse h ≤ 1048576) : ∀ g, g ∈ h.Logs → ∀ p, p ∈ g.Pieces → p.Bytes.size ≤ 2000000 := by
  intro g hg p hp
  have h1 := Pl.szI_mem Pl.szLog_nn hg
  have h2 := Pl.szI_mem Pl.szPiece_nn hp
  have h3 := Pl.szl_nn (f := Pl.szHead) Pl.szHead_nn h.Heads
  have h4 := Pl.szl_nn (f := Pl.szHead) Pl.szHead_nn h.Kept
  have h5 : (p.Bytes.size : Int) ≤ Pl.szPiece p := by
    have := Pl.szl_nn (f := Pl.sz0) Pl.sz0_nn p.Index
    unfold Pl.szPiece Pl.szStr; omega
  have h6 : Pl.szLog g = (g.Pieces.length : Int) + Pl.sumI Pl.szPiece g.Pieces := rfl
  have h7 : Pl.szHouse h = ((h.Logs.length : Int) + Pl.sumI Pl.szLog h.Logs) + Pl.szl Pl.szHead h.Heads + Pl.szl Pl.szHead h.Kept := rfl
  omega
theorem implGoodHouse_c (h : House) (b : Bool) (hb : b = true ↔ Pl.HouseOk h) (Bt : Nat) (cs : List Value) (w : World) (B : Nat) (hh : rHouse.at_ w B h cs) (hB : B ≤ w.heap.size) (ht : Tab Bt w) :
    Calls Tryz.prog 25 #[.agg cs.toArray] w fun e w' => e = .returned (.bool b) ∧ Below w.heap.size w w' := by
  obtain ⟨A0, n0, c0, A1, n1, c1, A2, n2, c2, rfl, -, -, -⟩ := rHouse_at hh
  obtain ⟨ga, hga⟩ : ∃ g, w.heap.size = g := ⟨_, rfl⟩
  obtain ⟨W0, hW0⟩ : ∃ W, w.alloc (.cells #[.slice A0 n0 c0, .slice A1 n1 c1, .slice A2 n2 c2] 27) = W := ⟨_, rfl⟩
  have KS0 := Lib.hid (((Mm.SepF.start w).alloc' hga 27 [.slice A0 n0 c0, .slice A1 n1 c1, .slice A2 n2 c2]).atW hW0)
  have d0 := KS0.out.cell (k := 0) 0 rfl rfl
  have d1 := KS0.out.cell (k := 1) 0 rfl rfl
  have d2 := KS0.out.cell (k := 2) 0 rfl rfl
  have CI := BoolAns.fix hb (isHouse_c h _ W0 B Bt (rHouse.keep hh fun b hb => KS0.out.bel0.block b (by omega)) (by have := KS0.out.bel0.size; omega) (ht.on KS0.out.bel0))
  clear hh
  go_enter Tryz.func25, Tryz.ntmps25
  go_wp2_with fail
  refine CI.mono ?_
  rintro e w1 ⟨rfl, hb1⟩
  have HB1 := Lib.hid (below_step KS0.out.bel0 hb1)
  clear CI d0 d1 d2
  go_wp2
  go_ret
  exact ⟨rfl, HB1.out⟩
theorem specGoodHouse_c (h : House) (b : Bool) (hb : b = true ↔ Pl.HouseOk h) (hsz : Pl.szHouse h ≤ 1048576) (cs : List Value) (w : World) (B : Nat) (hh : rHouse.at_ w B h cs) (hB : B ≤ w.heap.size) :
    Calls Tryz.prog 23 #[.agg cs.toArray] w fun e w' => e = .returned (.bool b) ∧ Below w.heap.size w w' :=
  BoolAns.fix hb (goodHouse_c h cs w B hh hB (Pl.house_bytes hsz))
end Go.Proofs.YtbhmdnjammnlnaaGreatDoor

namespace Go.Proofs.YtbhmdnjammnlnaaGreatDoor
open Go.RowKit
attribute [local go_sem] und_cell cha_cell World.cell?_alloc_some
namespace Pl
def rowOf (s : ByteArray) : List Row → Option Row
  | [] => none
  | r :: t => if rnm r = s then some r else rowOf s t
theorem rowOf_miss {s : ByteArray} : ∀ {l : List Row}, (∀ (i : Nat) x, l[i]? = some x → rnm x ≠ s) → rowOf s l = none
  | [], _ => rfl
  | r :: t, h => by
    unfold rowOf
    rw [if_neg (h 0 r rfl)]
    exact rowOf_miss fun i x hx => h (i + 1) x (by simpa using hx)
theorem rowOf_hit {s : ByteArray} : ∀ {l : List Row} {i : Nat} {x : Row}, RSort l → l[i]? = some x → rnm x = s → rowOf s l = some x
  | [], _, _, _, h, _ => by simp at h
  | r :: t, 0, x, _, h, e => by
    simp at h
    unfold rowOf
    rw [h, if_pos e]
  | r :: t, i + 1, x, hs, h, e => by
    unfold rowOf
    rw [if_neg (fun e2 => by
      have h1 := hs 0 (i + 1) r x (by omega) rfl h
      rw [e, e2, rless_irrefl] at h1; cases h1)]
    exact rowOf_hit hs.tail (by simpa using h) e
theorem rpos_none {s : ByteArray} {l : List Row} (hs : RSort l) (h : ∀ o, l[rpos s l]? = some o → rnm o ≠ s) : rowOf s l = none :=
  rowOf_miss fun i x hx e => by
    rcases Nat.lt_trichotomy i (rpos s l) with h1 | h1 | h1
    · have := rpos_lt s l i x h1 hx
      rw [e, rless_irrefl] at this; cases this
    · rw [h1] at hx; exact h x hx e
    · obtain ⟨y, hy⟩ : ∃ y, l[rpos s l]? = some y := ⟨_, List.getElem?_eq_getElem (by have := (List.getElem?_eq_some_iff.1 hx).1; omega)⟩
      have h2 := hs _ _ y x h1 hy hx
      rw [e] at h2
      rw [rpos_ge s l hs _ y (Nat.le_refl _) hy] at h2; cases h2
def smpsOf : Option Row → List Sample
  | none => []
  | some r => r.Samples
end Pl
def RowAns (o : Option Row) (w : World) (e : Ending) (w' : World) : Prop :=
  ∃ A n c fp, e = .returned (.tuple #[.slice A n c, .bool o.isSome]) ∧ Mm.SepF [] w w' [Mm.tsl smp 124 (Pl.smpsOf o) (.slice A n c) fp]
theorem RowAns.no {o : Option Row} (h : o = none) {w w' : World} (hb : Below w.heap.size w w') : RowAns o w (.returned (.tuple #[.slice none 0 0, .bool false])) w' := by
  subst h
  exact ⟨none, 0, 0, [], rfl, ((Mm.SepF.start w).add hb (t := Mm.tsl smp 124 [] (.slice none 0 0) []) Mm.SlOwn.nil List.nodup_nil (fun b hb => by cases hb))⟩
set_option maxRecDepth 100000 in
set_option maxHeartbeats 4000000 in
theorem implRowOf_c (h : Head) (s : ByteArray) (cs : List Value) (w : World) (B : Nat) (hh : rHead.at_ w B h cs) (hB : B ≤ w.heap.size) (hok : Pl.HeadOk h) (hs : s.size ≤ maxLen) :
    Calls Tryz.prog 41 #[.agg cs.toArray, .string s] w (RowAns (Pl.rowOf s h.Rows) w) := by
  obtain ⟨A0, n0, c0, rfl, r0, io⟩ := rHead_at hh
  have h8 : n0 ≤ 8 := by have := hok.len; have := r0.1; omega
  have HN0 : Hid (n0 = h.Rows.length) := r0.1.symm
  have R0 := Lib.hid r0
  have HBW := Lib.hid hB
  have HK := Lib.hid hok
  obtain ⟨ga, hga⟩ : ∃ g, w.heap.size = g := ⟨_, rfl⟩
  obtain ⟨W0, hW0⟩ : ∃ W, w.alloc (.cells #[.slice A0 n0 c0, .int .i64 h.Offset] 73) = W := ⟨_, rfl⟩
  have KS0 := Lib.hid (((Mm.SepF.start w).alloc' hga 73 [.slice A0 n0 c0, .int .i64 h.Offset]).atW hW0)
  have d0 := KS0.out.cell (k := 0) 0 rfl rfl
  have d1 := KS0.out.cell (k := 1) 0 rfl rfl
  have CI := BoolAns.fix (b := true) ⟨fun _ => hok, fun _ => rfl⟩ (isHead_c h _ W0 B (rHead.keep hh fun b hb => KS0.out.bel0.block b (by omega)) (by have := KS0.out.bel0.size; omega))
  clear hh r0 hok hB
  go_enter Tryz.func41, Tryz.ntmps41
  go_wp2_with fail
  refine CI.mono ?_
  rintro e w1 ⟨rfl, hb1⟩
  obtain ⟨W1, rfl⟩ : ∃ W : World, W = w1 := ⟨_, rfl⟩
  have KS1 := Lib.hid (KS0.out.step hb1)
  clear CI d0 d1 hb1 KS0 hW0 hga
  have d0 := KS1.out.cell (k := 0) 0 rfl rfl
  have d1 := KS1.out.cell (k := 1) 0 rfl rfl
  have CF := find_c h.Rows s A0 n0 c0 ga 0 W1 B (R0.out.keep fun b hb => KS1.out.bel0.block b (by have := HBW.out; omega)) (by have := KS1.out.bel0.size; have := HBW.out; omega) (by omega) HK.out.srt d0
  go_wp2_with fail
  refine CF.mono ?_
  rintro e w2 ⟨fd, rfl, hfd, hb2⟩
  obtain ⟨W2, rfl⟩ : ∃ W : World, W = w2 := ⟨_, rfl⟩
  have KS2 := Lib.hid (KS1.out.step hb2)
  have HFD := Lib.hid hfd
  clear CF d0 d1 hb2 hfd KS1
  have d0 := KS2.out.cell (k := 0) 0 rfl rfl
  have d1 := KS2.out.cell (k := 1) 0 rfl rfl
  cases fd with
  | false =>
    have HN : Hid (Pl.rowOf s h.Rows = none) := Pl.rpos_none HK.out.srt fun o ho e => by have := HFD.out.2 ⟨o, ho, e⟩; cases this
    have HBN := Lib.hid KS2.out.bel0
    go_wp2
    go_ret2
    exact RowAns.no HN.out HBN.out
  | true =>
    obtain ⟨o, ho, he⟩ := HFD.out.1 rfl
    obtain ⟨p, hp⟩ : ∃ p, Pl.rpos s h.Rows = p := ⟨_, rfl⟩
    rw [hp] at ho ⊢
    have hpn : p < n0 := by have := (List.getElem?_eq_some_iff.1 ho).1; have := HN0.out; omega
    have HN : Hid (Pl.rowOf s h.Rows = some o) := Pl.rowOf_hit HK.out.srt ho he
    obtain ⟨x, bX, off, AH, mH, dH, hx, rfl, hbX, hnm2, hrd, e0, e1⟩ := rRow_get (R0.out.keep (w' := W2) fun b hb => KS2.out.bel0.block b (by have := HBW.out; omega)) hpn
    obtain rfl : x = o := by rw [ho] at hx; injection hx with hx; exact hx.symm
    have h40 : mH ≤ 40 := by have := Pl.samplesOk_len (HK.out.row x (List.mem_of_getElem? ho)).2.2; have := hrd.1; omega
    have CC := clSmp_c x.Samples AH mH dH W2 B hrd (by omega)
    have f2 : (0 : Int) ≤ (p : Nat) := by omega
    have f3 : ((p : Nat) : Int).toNat = p := by omega
    have f4 : (p : Int) < (n0 : Nat) := by omega
    clear hx ho he hp hnm2 hrd
    go_wp2_with (go_at_call 96; refine CC.mono ?_; clear CC; rintro e w3 ⟨A2, m2, c2, fp2, rfl, ho2, hnd2, hnew2, hb3⟩; (have HS3 := Lib.hid (KS2.out.add hb3 (t := Mm.tsl smp 124 x.Samples (.slice A2 m2 c2) fp2) ho2 hnd2 hnew2)); clear ho2 hnd2 hnew2 hb3)
    go_ret2
    rw [HN.out]
    exact ⟨A2, m2, c2, fp2, rfl, HS3.out.sel [0] (by decide) rfl⟩
theorem Tryz.infoSmpZ : (Tryz.prog.info? 124).map (fun i => (i.zero, i.size, i.bytes)) = some (some (.agg #[.int .i64 0, .int .i64 0]), 2, 16) := by kernel_rfl
set_option maxRecDepth 100000 in
set_option maxHeartbeats 4000000 in
theorem specRowOf_c (h : Head) (s : ByteArray) (cs : List Value) (w : World) (B : Nat) (hh : rHead.at_ w B h cs) (hB : B ≤ w.heap.size) (hok : Pl.HeadOk h) (hs : s.size ≤ maxLen) :
    Calls Tryz.prog 84 #[.agg cs.toArray, .string s] w (RowAns (Pl.rowOf s h.Rows) w) := by
  obtain ⟨A0, n0, c0, rfl, r0, io⟩ := rHead_at hh
  have h8 : n0 ≤ 8 := by have := hok.len; have := r0.1; omega
  have HN0 : Hid (n0 = h.Rows.length) := r0.1.symm
  have R0 := Lib.hid r0
  have HBW := Lib.hid hB
  have HK := Lib.hid hok
  obtain ⟨iS, qS, qS0, qS1, qS2⟩ := info_parts Tryz.infoSmpZ
  obtain ⟨ga, hga⟩ : ∃ g, w.heap.size = g := ⟨_, rfl⟩
  obtain ⟨W0, hW0⟩ : ∃ W, w.alloc (.cells #[.slice A0 n0 c0, .int .i64 h.Offset] 73) = W := ⟨_, rfl⟩
  have KS0 := Lib.hid (((Mm.SepF.start w).alloc' hga 73 [.slice A0 n0 c0, .int .i64 h.Offset]).atW hW0)
  have d0 := KS0.out.cell (k := 0) 0 rfl rfl
  have d1 := KS0.out.cell (k := 1) 0 rfl rfl
  have CI := BoolAns.fix (b := true) ⟨fun _ => hok, fun _ => rfl⟩ (goodHead_c h _ W0 B (rHead.keep hh fun b hb => KS0.out.bel0.block b (by omega)) (by have := KS0.out.bel0.size; omega))
  clear hh r0 hok hB
  go_enter Tryz.func84, Tryz.ntmps84
  go_wp2_with fail
  refine CI.mono ?_
  rintro e w1 ⟨rfl, hb1⟩
  obtain ⟨W1, rfl⟩ : ∃ W : World, W = w1 := ⟨_, rfl⟩
  have KS1 := Lib.hid (KS0.out.step hb1)
  clear CI d0 d1 hb1 KS0 hW0 hga
  have d0 := KS1.out.cell (k := 0) 0 rfl rfl
  have d1 := KS1.out.cell (k := 1) 0 rfl rfl
  go_upto_region 4 with fail
  clear d0 d1
  go_loopg [14] n0 (fun gg i_ wr => ∃ (k : Nat), n0 - k ≤ gg ∧ k ≤ n0 ∧ i_ = .int .i64 (k : Nat) ∧ Hid (∀ (i : Nat) x, i < k → h.Rows[i]? = some x → Pl.rnm x ≠ s) ∧ Hid (Mm.SepF [] w wr [Mm.tblk ga 73 [.slice A0 n0 c0, .int .i64 h.Offset]]))
  case atStart => exact ⟨0, by omega, by omega, rfl, fun i x hi => absurd hi (by omega), KS1.out⟩
  case round =>
    clear KS1
    obtain ⟨k, hgk, hk', rfl, HU, HS⟩ := hrel
    obtain ⟨W, rfl⟩ : ∃ W : World, W = wr := ⟨_, rfl⟩
    by_cases hlt : k < n0
    · have fc : (k : Int) < (n0 : Nat) := by omega
      obtain ⟨x, b, off, AH, mH, dH, hx, rfl, hb, hnm2, hrd, e0, e1⟩ := rRow_get (R0.out.keep (w' := W) fun b hb => HS.out.bel0.block b (by have := HBW.out; omega)) hlt
      have HX := Lib.hid hx
      have h40 : mH ≤ 40 := by have := Pl.samplesOk_len (HK.out.row x (List.mem_of_getElem? hx)).2.2; have := hrd.1; omega
      obtain ⟨gr, hgr⟩ : ∃ g, W.heap.size = g := ⟨_, rfl⟩
      obtain ⟨W2, hW2⟩ : ∃ V, W.alloc (.cells #[.string x.Name, .slice AH mH dH] 139) = V := ⟨_, rfl⟩
      have KS2 := Lib.hid ((HS.out.alloc' hgr 139 [.string x.Name, .slice AH mH dH]).atW hW2)
      have hb2 : Below W.heap.size W W2 := by rw [← hW2]; exact below_new (Below.refl _ _) _
      have HRD := Lib.hid (hrd.keep (w' := W2) fun b hb => hb2.block b (by have := HBW.out; have := HS.out.bel0.size; omega))
      have hBW2 : B ≤ W2.heap.size := by have := HBW.out; have := HS.out.bel0.size; have := hb2.size; omega
      go_upto_region 6 with fail
      clear hW2 hgr e0 e1 hrd hx HS
      have q0 := KS2.out.cell (k := 0) 0 rfl rfl
      have q1 := KS2.out.cell (k := 1) 0 rfl rfl
      by_cases he : x.Name = s
      · have he1 : (x.Name.toList == s.toList) = true := by rw [he]; simp
        have HN : Hid (Pl.rowOf s h.Rows = some x) := Pl.rowOf_hit HK.out.srt HX.out he
        clear he
        go_wp2_with (at_builtin; refine Mm.wpList_clone (by rfl) (.tmp 22) (.tmp 24) 62 (by rfl) Mm.flatA_smpK iS _ 16 Tryz.underlying62 qS qS0 qS1 qS2 rfl (by decide) KS2.out.toSep (below_new (Below.refl W2.heap.size W2) (.cells #[] 124)) (g := W2.heap.size) (heap_alloc_new W2 _) (Nat.le_refl _) (HRD.out.keep (fun b hb => Below.heap_alloc W2 _ b (by omega))) (by unfold maxLen; omega) (by omega) (by rfl) (by rfl) ?_; intro A2 c2 fp2 w3 hs3 hb3; (have HS3 := Lib.hid hs3.toF); clear hs3 hb3)
        go_ret2
        rw [HN.out]
        exact ⟨A2, mH, c2, fp2, rfl, HS3.out.sel [0] (by decide) rfl⟩
      · have he1 : (x.Name.toList == s.toList) = false := by
          rw [beq_eq_false_iff_ne]; intro e; exact he (Pl.rba_ext (by rwa [← Lib.toList_data, ← Lib.toList_data]))
        have he2 : ¬ x.Name.toList = s.toList := by simpa using he1
        have HUN : Hid (∀ (i : Nat) y, i < k + 1 → h.Rows[i]? = some y → Pl.rnm y ≠ s) := fun i y hi hy => by
          rcases Nat.lt_succ_iff_lt_or_eq.1 hi with h1 | rfl
          · exact HU.out i y h1 hy
          · have := HX.out.symm.trans hy
            injection this with this
            subst this
            exact he
        clear he
        have HSX := Lib.hid (KS2.out.sel [1] (by decide) rfl)
        go_wp2
        go_roundg (n0 - (k + 1))
        case measure => omega
        case rel => exact ⟨k + 1, by omega, by omega, by go_num, HUN.out, HSX.out⟩
    · obtain rfl : k = n0 := by omega
      have fc : ¬ ((k : Nat) : Int) < (k : Nat) := by omega
      have HN : Hid (Pl.rowOf s h.Rows = none) := Pl.rowOf_miss fun i x hx => HU.out i x (by have := (List.getElem?_eq_some_iff.1 hx).1; have := HN0.out; omega) hx
      have HBN := Lib.hid HS.out.bel0
      go_wp2
      go_ret2
      exact RowAns.no HN.out HBN.out
end Go.Proofs.YtbhmdnjammnlnaaGreatDoor

namespace Go.Proofs.YtbhmdnjammnlnaaGreatDoor
open Go.RowKit
attribute [local go_sem] und_cell cha_cell World.cell?_alloc_some
namespace Pl
theorem HouseOk.ex {h : House} (k : HouseOk h) {i : Nat} (hi : i < h.Logs.length) : ∃ g a b l, h.Logs[i]? = some g ∧ h.Heads[i]? = some a ∧ h.Kept[i]? = some b ∧ PartOk h.Logs.length i g a b l := by
  obtain ⟨l, hl⟩ := k.part i _ _ _ (List.getElem?_eq_getElem hi) (List.getElem?_eq_getElem (by rw [k.hdn]; exact hi)) (List.getElem?_eq_getElem (by rw [k.kpn]; exact hi))
  exact ⟨_, _, _, l, List.getElem?_eq_getElem hi, List.getElem?_eq_getElem (by rw [k.hdn]; exact hi), List.getElem?_eq_getElem (by rw [k.kpn]; exact hi), hl⟩
theorem PartOk.head {n k : Nat} {g : Log} {hd kp : Head} {l : List Say} (h : PartOk n k g hd kp l) : HeadOk hd := (h.hdf.ok h.sayOk (by have := h.len; omega)).1
theorem PartOk.kept {n k : Nat} {g : Log} {hd kp : Head} {l : List Say} (h : PartOk n k g hd kp l) : HeadOk kp := (h.kpf.ok h.sayOk (by have := h.len; omega)).1
theorem HouseOk.head {h : House} (k : HouseOk h) {i : Nat} {a : Head} (ha : h.Heads[i]? = some a) : HeadOk a := by
  obtain ⟨g, a', b, l, h1, h2, h3, h4⟩ := k.ex (i := i) (by have := (List.getElem?_eq_some_iff.1 ha).1; rw [k.hdn] at this; exact this)
  rw [ha] at h2; injection h2 with h2; subst h2; exact h4.head
def askHd (h : House) (s : ByteArray) : Head := h.Heads.getD (partN (h.Logs.length : Int) s).toNat ⟨[], 0⟩
def askOf (b : Bool) (h : House) (s : ByteArray) (wait : Int) : List Sample × Bool × Bool :=
  if b = true ∧ word false s.data.toList = true ∧ isIn wait 0 60 = true then
    if (askHd h s).Offset < wait then ([], false, true) else (smpsOf (rowOf s (askHd h s).Rows), true, true)
  else ([], false, false)
theorem askOf_no {b : Bool} {h : House} {s : ByteArray} {wait : Int} (k : ¬ (b = true ∧ word false s.data.toList = true ∧ isIn wait 0 60 = true)) : askOf b h s wait = ([], false, false) := if_neg k
theorem askHd_at {h : House} {s : ByteArray} {k : Nat} {a : Head} (hk : partN (h.Logs.length : Int) s = (k : Nat)) (ha : h.Heads[k]? = some a) : askHd h s = a := by
  unfold askHd
  rw [hk, List.getD_eq_getElem?_getD, Int.toNat_natCast, ha]; rfl
end Pl
def AskAns (x : List Sample × Bool × Bool) (w : World) (e : Ending) (w' : World) : Prop :=
  ∃ A n c fp, e = .returned (.tuple #[.slice A n c, .bool x.2.1, .bool x.2.2]) ∧ Mm.SepF [] w w' [Mm.tsl smp 124 x.1 (.slice A n c) fp]
theorem AskAns.no {x : List Sample × Bool × Bool} {b : Bool} (h : x = ([], false, b)) {w w' : World} (hb : Below w.heap.size w w') : AskAns x w (.returned (.tuple #[.slice none 0 0, .bool false, .bool b])) w' := by
  subst h
  exact ⟨none, 0, 0, [], rfl, ((Mm.SepF.start w).add hb (t := Mm.tsl smp 124 [] (.slice none 0 0) []) Mm.SlOwn.nil List.nodup_nil (fun b hb => by cases hb))⟩
set_option maxRecDepth 100000 in
set_option maxHeartbeats 4000000 in
theorem implAskHouse_c (h : House) (b : Bool) (hb : b = true ↔ Pl.HouseOk h) (Bt : Nat) (cs : List Value) (s : ByteArray) (wait : Int) (w : World) (B : Nat) (hh : rHouse.at_ w B h cs) (hB : B ≤ w.heap.size) (ht : Tab Bt w) (hs : s.size ≤ maxLen) :
    Calls Tryz.prog 33 #[.agg cs.toArray, .string s, .int .i64 wait] w (AskAns (Pl.askOf b h s wait) w) := by
  obtain ⟨A0, n0, c0, A1, n1, c1, A2, n2, c2, rfl, r0, r1, r2⟩ := rHouse_at hh
  have HNN : Hid (h.Logs.length = n0) := r0.1
  have HNH : Hid (h.Heads.length = n1) := r1.1
  have R1 := Lib.hid r1
  have HBW := Lib.hid hB
  have HBO := Lib.hid hb
  obtain ⟨ga, hga⟩ : ∃ g, w.heap.size = g := ⟨_, rfl⟩
  obtain ⟨W0, hW0⟩ : ∃ W, w.alloc (.cells #[.slice A0 n0 c0, .slice A1 n1 c1, .slice A2 n2 c2] 27) = W := ⟨_, rfl⟩
  have KS0 := Lib.hid (((Mm.SepF.start w).alloc' hga 27 [.slice A0 n0 c0, .slice A1 n1 c1, .slice A2 n2 c2]).atW hW0)
  have d0 := KS0.out.cell (k := 0) 0 rfl rfl
  have d1 := KS0.out.cell (k := 1) 0 rfl rfl
  have d2 := KS0.out.cell (k := 2) 0 rfl rfl
  have CG := (BoolAns.fix hb (isHouse_c h _ W0 B Bt (rHouse.keep hh fun b hb => KS0.out.bel0.block b (by omega)) (by have := KS0.out.bel0.size; omega) (ht.on KS0.out.bel0)))
  clear hh r0 r1 r2 hb hB
  go_enter Tryz.func33, Tryz.ntmps33
  go_wp2_with fail
  refine CG.mono ?_
  rintro e w1 ⟨rfl, hb1⟩
  obtain ⟨W1, rfl⟩ : ∃ W : World, W = w1 := ⟨_, rfl⟩
  have HS1 := Lib.hid (KS0.out.step hb1)
  have HB1 := Lib.hid HS1.out.bel0
  clear CG d0 d1 d2 hb1 KS0 hW0 hga
  have d0 := HS1.out.cell (k := 0) 0 rfl rfl
  have d1 := HS1.out.cell (k := 1) 0 rfl rfl
  obtain ⟨wd, hwd⟩ : ∃ z, Pl.word false s.data.toList = z := ⟨_, rfl⟩
  obtain ⟨inb, hin⟩ : ∃ z, Pl.isIn wait 0 60 = z := ⟨_, rfl⟩
  have CW := isWord_c s false W1 hs
  rw [hwd] at CW
  have CI := within_isJ hin W1
  have HWD := Lib.hid hwd
  have HIN := Lib.hid hin
  clear hwd hin
  cases b with
  | false =>
    have HN : Hid (Pl.askOf false h s wait = ([], false, false)) := Pl.askOf_no (fun hh => by cases hh.1)
    go_wp2_with (first | (go_at_call 85; (with_reducible refine CW.mono ?_); rintro e w' ⟨rfl, rfl⟩) | (go_at_call 55; (with_reducible refine CI.mono ?_); rintro e w' ⟨rfl, rfl⟩))
    go_ret3
    exact AskAns.no HN.out HB1.out
  | true =>
    cases wd with
    | false =>
      have HN : Hid (Pl.askOf true h s wait = ([], false, false)) := Pl.askOf_no (fun hh => by have := HWD.out.symm.trans hh.2.1; cases this)
      go_wp2_with (first | (go_at_call 85; (with_reducible refine CW.mono ?_); rintro e w' ⟨rfl, rfl⟩) | (go_at_call 55; (with_reducible refine CI.mono ?_); rintro e w' ⟨rfl, rfl⟩))
      go_ret3
      exact AskAns.no HN.out HB1.out
    | true =>
      cases inb with
      | false =>
        have HN : Hid (Pl.askOf true h s wait = ([], false, false)) := Pl.askOf_no (fun hh => by have := HIN.out.symm.trans hh.2.2; cases this)
        go_wp2_with (first | (go_at_call 85; (with_reducible refine CW.mono ?_); rintro e w' ⟨rfl, rfl⟩) | (go_at_call 55; (with_reducible refine CI.mono ?_); rintro e w' ⟨rfl, rfl⟩))
        go_ret3
        exact AskAns.no HN.out HB1.out
      | true =>
        have HK := Lib.hid (HBO.out.1 rfl)
        obtain rfl : n1 = n0 := by have := HK.out.hdn; have := HNN.out; have := HNH.out; omega
        have hn1 : 1 ≤ n1 ∧ n1 ≤ 3 := by have := HK.out.n1; have := HK.out.n3; have := HNN.out; omega
        have hn1' : (1 : Int) ≤ (n1 : Nat) := by omega
        have hn0 : ¬ ((n1 : Nat) : Int) = 0 := by omega
        have CH := fun z : World => hashText_c s z hs
        have hh := Pl.hash_bd s.data.toList
        have HPN : Hid (Pl.partN (n1 : Int) s = Pl.hash s.data.toList % (n1 : Int)) := rfl
        obtain ⟨hv, hhv⟩ : ∃ v, Pl.hash s.data.toList = v := ⟨_, rfl⟩
        rw [hhv] at hh HPN
        simp only [hhv] at CH
        obtain ⟨hh1, hh2⟩ := hh
        have htm : hv.tmod (n1 : Int) = hv % (n1 : Int) := Int.tmod_eq_emod_of_nonneg hh1
        obtain ⟨k, hk⟩ : ∃ k : Nat, hv % (n1 : Int) = k := ⟨(hv % (n1 : Int)).toNat, by have := Int.emod_nonneg hv (b := (n1 : Int)) (by omega); omega⟩
        have hkn : k < n1 := by have := Int.emod_lt_of_pos hv (b := (n1 : Int)) (by omega); omega
        rw [hk] at htm HPN
        obtain ⟨x, bX, oX, AH, mH, dH, hx, rfl, hbX, hrp, hbg, e0, e1⟩ := rHead_get (R1.out.keep (w' := W1) fun b hb => HS1.out.bel0.block b (by have := HBW.out; omega)) hkn
        have HAT := Lib.hid (rHead_at_mk hrp hbg)
        have HX : Hid (Pl.askHd h s = x) := Pl.askHd_at (by rw [HNN.out]; exact HPN.out) hx
        have HXK := Lib.hid (HK.out.head hx)
        have f2 : (0 : Int) ≤ (k : Nat) := by omega
        have f3 : ((k : Nat) : Int).toNat = k := by omega
        have f4 : (k : Int) < (n1 : Nat) := by omega
        clear hhv hk hrp hbg hx
        go_upto_region 3 with (first | (go_at_call 85; (with_reducible refine CW.mono ?_); rintro e w' ⟨rfl, rfl⟩) | (go_at_call 55; (with_reducible refine CI.mono ?_); rintro e w' ⟨rfl, rfl⟩))
        clear CW CI
        refine Mm.wp_region_give 11 (fun i => match i with | 3 => some (Mm.gVal (.int .i64 hv)) | 10 => some (Mm.gPtr 73 [.slice none 0 0, .int .i64 0]) | _ => none) (fun _ => []) (fun _ => []) (F := []) (D := fun w' => ∃ x : Und W1, w' = und W1 x) (fun X us h => Mm.sep_und h) (by kernel_rfl) (by kernel_rfl) (by kernel_rfl) (Mm.SepF.startDrew _) ?_
        repeat (refine Mm.give_det (by rfl) (by rfl) (by rfl) (fun K hK => ?_); go_big_quiet_op; refine hK _ ?_; clear hK K)
        refine Mm.give_op0 28 (by rfl) rfl (by rfl) (by rfl) (by rfl) (by rfl) ⟨_, _, rfl, rfl⟩ (fun others X hX => ?_) ?_
        · go_wp2_with (go_at_call 86; (with_reducible refine (CH _).mono ?_); rintro e w' ⟨rfl, rfl⟩)
          exact Mm.gvq_val hX (Below.refl _ _) rfl rfl
        rintro v ds ⟨rfl, rfl⟩
        simp only [Act.put, List.setIfInBounds_toArray, List.set_cons_succ, List.set_cons_zero]
        repeat (refine Mm.give_det (by rfl) (by rfl) (by rfl) (fun K hK => ?_); go_big_quiet_op; refine hK _ ?_; clear hK K)
        refine Mm.give_op0 9 (by rfl) rfl (by rfl) (by rfl) (by rfl) (by rfl) Mm.gPtr_in (fun others X hX => ?_) ?_
        · go_wp2
          exact Mm.gvq_ptr hX rfl rfl rfl
        rintro v ds ⟨gp, rfl, rfl⟩
        simp only [Act.put, List.setIfInBounds_toArray, List.set_cons_succ, List.set_cons_zero]
        repeat (refine Mm.give_det (by rfl) (by rfl) (by rfl) (fun K hK => ?_); go_big_quiet_op; refine hK _ ?_; clear hK K)
        refine Mm.give_nil ?_
        rintro X hX
        have HSX := Lib.hid (HS1.out.join (us := [Mm.tblk gp 73 [.slice none 0 0, .int .i64 0]]) hX)
        clear hX d0 d1 e0 e1 CH
        have b0 := HSX.out.cell (k := 0) 0 rfl rfl
        have b1 := HSX.out.cell (k := 1) 0 rfl rfl
        have y0 := HSX.out.frz (k := 0) 0 rfl
        have y1 := HSX.out.frz (k := 1) 0 rfl
        go_upto_region 4 with fail
        obtain ⟨WN, hWN⟩ : ∃ W, (X.setCell ⟨gp, 0, none⟩ (.slice AH mH dH)).setCell ⟨gp, 1, none⟩ (.int .i64 x.Offset) = W := ⟨_, rfl⟩
        have HSN := Lib.hid (((HSX.out.setBlk (k := 0) 0 rfl (.slice AH mH dH)).setBlk (k := 1) 0 rfl (.int .i64 x.Offset)).atW hWN)
        rw [hWN]
        clear hWN HSX b0 b1 y0 y1
        have b0 := HSN.out.cell (k := 0) 0 rfl rfl
        have b1 := HSN.out.cell (k := 1) 0 rfl rfl
        by_cases hof : x.Offset < wait
        · have HN : Hid (Pl.askOf true h s wait = ([], false, true)) := by
            unfold Pl.askOf
            show _ = _
            rw [if_pos ⟨rfl, HWD.out, HIN.out⟩, HX.out, if_pos hof]
          have HBN := Lib.hid HSN.out.bel0
          go_wp2
          go_ret3
          exact AskAns.no HN.out HBN.out
        · have HN : Hid (Pl.askOf true h s wait = (Pl.smpsOf (Pl.rowOf s x.Rows), true, true)) := by
            unfold Pl.askOf
            show _ = _
            rw [if_pos ⟨rfl, HWD.out, HIN.out⟩, HX.out, if_neg hof]
          have CR := implRowOf_c x s [.slice AH mH dH, .int .i64 x.Offset] WN B (rHead.keep HAT.out fun b hb => (HSN.out.bel0.block b (by have := HBW.out; omega)).trans (HS1.out.bel0.block b (by have := HBW.out; omega)).symm) (by have := HSN.out.bel0.size; have := HBW.out; omega) HXK.out hs
          go_wp2_with (go_at_call 41; (with_reducible refine CR.mono ?_); clear CR; rintro e w5 ⟨A5, n5, c5, f5, rfl, hS5⟩; (have HS5 := Lib.hid (HSN.out.join hS5)); clear hS5)
          go_ret3
          rw [HN.out]
          exact ⟨A5, n5, c5, f5, rfl, HS5.out.sel [0] (by decide) rfl⟩
set_option maxRecDepth 100000 in
set_option maxHeartbeats 4000000 in
theorem specAskHouse_c (h : House) (b : Bool) (hb : b = true ↔ Pl.HouseOk h) (hsz : Pl.szHouse h ≤ 1048576) (cs : List Value) (s : ByteArray) (wait : Int) (w : World) (B : Nat) (hh : rHouse.at_ w B h cs) (hB : B ≤ w.heap.size) (hs : s.size ≤ maxLen) :
    Calls Tryz.prog 32 #[.agg cs.toArray, .string s, .int .i64 wait] w (AskAns (Pl.askOf b h s wait) w) := by
  obtain ⟨A0, n0, c0, A1, n1, c1, A2, n2, c2, rfl, r0, r1, r2⟩ := rHouse_at hh
  have HNN : Hid (h.Logs.length = n0) := r0.1
  have HNH : Hid (h.Heads.length = n1) := r1.1
  have R1 := Lib.hid r1
  have HBW := Lib.hid hB
  have HBO := Lib.hid hb
  obtain ⟨ga, hga⟩ : ∃ g, w.heap.size = g := ⟨_, rfl⟩
  obtain ⟨W0, hW0⟩ : ∃ W, w.alloc (.cells #[.slice A0 n0 c0, .slice A1 n1 c1, .slice A2 n2 c2] 27) = W := ⟨_, rfl⟩
  have KS0 := Lib.hid (((Mm.SepF.start w).alloc' hga 27 [.slice A0 n0 c0, .slice A1 n1 c1, .slice A2 n2 c2]).atW hW0)
  have d0 := KS0.out.cell (k := 0) 0 rfl rfl
  have d1 := KS0.out.cell (k := 1) 0 rfl rfl
  have d2 := KS0.out.cell (k := 2) 0 rfl rfl
  have CG := (specGoodHouse_c h b hb hsz _ W0 B (rHouse.keep hh fun b hb => KS0.out.bel0.block b (by omega)) (by have := KS0.out.bel0.size; omega))
  clear hh r0 r1 r2 hb hB
  go_enter Tryz.func32, Tryz.ntmps32
  go_wp2_with fail
  refine CG.mono ?_
  rintro e w1 ⟨rfl, hb1⟩
  obtain ⟨W1, rfl⟩ : ∃ W : World, W = w1 := ⟨_, rfl⟩
  have HS1 := Lib.hid (KS0.out.step hb1)
  have HB1 := Lib.hid HS1.out.bel0
  clear CG d0 d1 d2 hb1 KS0 hW0 hga
  have d0 := HS1.out.cell (k := 0) 0 rfl rfl
  have d1 := HS1.out.cell (k := 1) 0 rfl rfl
  obtain ⟨wd, hwd⟩ : ∃ z, Pl.word false s.data.toList = z := ⟨_, rfl⟩
  obtain ⟨inb, hin⟩ : ∃ z, Pl.isIn wait 0 60 = z := ⟨_, rfl⟩
  have CW := l3Name_c s false W1 hs
  rw [hwd] at CW
  have CI := l1In_isJ hin W1
  have HWD := Lib.hid hwd
  have HIN := Lib.hid hin
  clear hwd hin
  cases b with
  | false =>
    have HN : Hid (Pl.askOf false h s wait = ([], false, false)) := Pl.askOf_no (fun hh => by cases hh.1)
    go_wp2_with (first | (go_at_call 82; (with_reducible refine CW.mono ?_); rintro e w' ⟨rfl, rfl⟩) | (go_at_call 68; (with_reducible refine CI.mono ?_); rintro e w' ⟨rfl, rfl⟩))
    go_ret3
    exact AskAns.no HN.out HB1.out
  | true =>
    cases wd with
    | false =>
      have HN : Hid (Pl.askOf true h s wait = ([], false, false)) := Pl.askOf_no (fun hh => by have := HWD.out.symm.trans hh.2.1; cases this)
      go_wp2_with (first | (go_at_call 82; (with_reducible refine CW.mono ?_); rintro e w' ⟨rfl, rfl⟩) | (go_at_call 68; (with_reducible refine CI.mono ?_); rintro e w' ⟨rfl, rfl⟩))
      go_ret3
      exact AskAns.no HN.out HB1.out
    | true =>
      cases inb with
      | false =>
        have HN : Hid (Pl.askOf true h s wait = ([], false, false)) := Pl.askOf_no (fun hh => by have := HIN.out.symm.trans hh.2.2; cases this)
        go_wp2_with (first | (go_at_call 82; (with_reducible refine CW.mono ?_); rintro e w' ⟨rfl, rfl⟩) | (go_at_call 68; (with_reducible refine CI.mono ?_); rintro e w' ⟨rfl, rfl⟩))
        go_ret3
        exact AskAns.no HN.out HB1.out
      | true =>
        have HK := Lib.hid (HBO.out.1 rfl)
        obtain rfl : n1 = n0 := by have := HK.out.hdn; have := HNN.out; have := HNH.out; omega
        have hn1 : 1 ≤ n1 ∧ n1 ≤ 3 := by have := HK.out.n1; have := HK.out.n3; have := HNN.out; omega
        have hn1' : (1 : Int) ≤ (n1 : Nat) := by omega
        have hn0 : ¬ ((n1 : Nat) : Int) = 0 := by omega
        have CH := fun z : World => l3Hash_c s z hs
        have hh := Pl.hash_bd s.data.toList
        have HPN : Hid (Pl.partN (n1 : Int) s = Pl.hash s.data.toList % (n1 : Int)) := rfl
        obtain ⟨hv, hhv⟩ : ∃ v, Pl.hash s.data.toList = v := ⟨_, rfl⟩
        rw [hhv] at hh HPN
        simp only [hhv] at CH
        obtain ⟨hh1, hh2⟩ := hh
        have htm : hv.tmod (n1 : Int) = hv % (n1 : Int) := Int.tmod_eq_emod_of_nonneg hh1
        obtain ⟨k, hk⟩ : ∃ k : Nat, hv % (n1 : Int) = k := ⟨(hv % (n1 : Int)).toNat, by have := Int.emod_nonneg hv (b := (n1 : Int)) (by omega); omega⟩
        have hkn : k < n1 := by have := Int.emod_lt_of_pos hv (b := (n1 : Int)) (by omega); omega
        rw [hk] at htm HPN
        obtain ⟨x, bX, oX, AH, mH, dH, hx, rfl, hbX, hrp, hbg, e0, e1⟩ := rHead_get (R1.out.keep (w' := W1) fun b hb => HS1.out.bel0.block b (by have := HBW.out; omega)) hkn
        have HAT := Lib.hid (rHead_at_mk hrp hbg)
        have HX : Hid (Pl.askHd h s = x) := Pl.askHd_at (by rw [HNN.out]; exact HPN.out) hx
        have HXK := Lib.hid (HK.out.head hx)
        have f2 : (0 : Int) ≤ (k : Nat) := by omega
        have f3 : ((k : Nat) : Int).toNat = k := by omega
        have f4 : (k : Int) < (n1 : Nat) := by omega
        clear hhv hk hrp hbg hx
        go_upto_region 3 with (first | (go_at_call 82; (with_reducible refine CW.mono ?_); rintro e w' ⟨rfl, rfl⟩) | (go_at_call 68; (with_reducible refine CI.mono ?_); rintro e w' ⟨rfl, rfl⟩))
        clear CW CI
        refine Mm.wp_region_give 11 (fun i => match i with | 3 => some (Mm.gVal (.int .i64 hv)) | 10 => some (Mm.gPtr 73 [.slice none 0 0, .int .i64 0]) | _ => none) (fun _ => []) (fun _ => []) (F := []) (D := fun w' => ∃ x : Und W1, w' = und W1 x) (fun X us h => Mm.sep_und h) (by kernel_rfl) (by kernel_rfl) (by kernel_rfl) (Mm.SepF.startDrew _) ?_
        repeat (refine Mm.give_det (by rfl) (by rfl) (by rfl) (fun K hK => ?_); go_big_quiet_op; refine hK _ ?_; clear hK K)
        refine Mm.give_op0 28 (by rfl) rfl (by rfl) (by rfl) (by rfl) (by rfl) ⟨_, _, rfl, rfl⟩ (fun others X hX => ?_) ?_
        · go_wp2_with (go_at_call 83; (with_reducible refine (CH _).mono ?_); rintro e w' ⟨rfl, rfl⟩)
          exact Mm.gvq_val hX (Below.refl _ _) rfl rfl
        rintro v ds ⟨rfl, rfl⟩
        simp only [Act.put, List.setIfInBounds_toArray, List.set_cons_succ, List.set_cons_zero]
        repeat (refine Mm.give_det (by rfl) (by rfl) (by rfl) (fun K hK => ?_); go_big_quiet_op; refine hK _ ?_; clear hK K)
        refine Mm.give_op0 9 (by rfl) rfl (by rfl) (by rfl) (by rfl) (by rfl) Mm.gPtr_in (fun others X hX => ?_) ?_
        · go_wp2
          exact Mm.gvq_ptr hX rfl rfl rfl
        rintro v ds ⟨gp, rfl, rfl⟩
        simp only [Act.put, List.setIfInBounds_toArray, List.set_cons_succ, List.set_cons_zero]
        repeat (refine Mm.give_det (by rfl) (by rfl) (by rfl) (fun K hK => ?_); go_big_quiet_op; refine hK _ ?_; clear hK K)
        refine Mm.give_nil ?_
        rintro X hX
        have HSX := Lib.hid (HS1.out.join (us := [Mm.tblk gp 73 [.slice none 0 0, .int .i64 0]]) hX)
        clear hX d0 d1 e0 e1 CH
        have b0 := HSX.out.cell (k := 0) 0 rfl rfl
        have b1 := HSX.out.cell (k := 1) 0 rfl rfl
        have y0 := HSX.out.frz (k := 0) 0 rfl
        have y1 := HSX.out.frz (k := 1) 0 rfl
        go_upto_region 4 with fail
        obtain ⟨WN, hWN⟩ : ∃ W, (X.setCell ⟨gp, 0, none⟩ (.slice AH mH dH)).setCell ⟨gp, 1, none⟩ (.int .i64 x.Offset) = W := ⟨_, rfl⟩
        have HSN := Lib.hid (((HSX.out.setBlk (k := 0) 0 rfl (.slice AH mH dH)).setBlk (k := 1) 0 rfl (.int .i64 x.Offset)).atW hWN)
        rw [hWN]
        clear hWN HSX b0 b1 y0 y1
        have b0 := HSN.out.cell (k := 0) 0 rfl rfl
        have b1 := HSN.out.cell (k := 1) 0 rfl rfl
        by_cases hof : x.Offset < wait
        · have HN : Hid (Pl.askOf true h s wait = ([], false, true)) := by
            unfold Pl.askOf
            show _ = _
            rw [if_pos ⟨rfl, HWD.out, HIN.out⟩, HX.out, if_pos hof]
          have HBN := Lib.hid HSN.out.bel0
          go_wp2
          go_ret3
          exact AskAns.no HN.out HBN.out
        · have HN : Hid (Pl.askOf true h s wait = (Pl.smpsOf (Pl.rowOf s x.Rows), true, true)) := by
            unfold Pl.askOf
            show _ = _
            rw [if_pos ⟨rfl, HWD.out, HIN.out⟩, HX.out, if_neg hof]
          have CR := specRowOf_c x s [.slice AH mH dH, .int .i64 x.Offset] WN B (rHead.keep HAT.out fun b hb => (HSN.out.bel0.block b (by have := HBW.out; omega)).trans (HS1.out.bel0.block b (by have := HBW.out; omega)).symm) (by have := HSN.out.bel0.size; have := HBW.out; omega) HXK.out hs
          go_wp2_with (go_at_call 84; (with_reducible refine CR.mono ?_); clear CR; rintro e w5 ⟨A5, n5, c5, f5, rfl, hS5⟩; (have HS5 := Lib.hid (HSN.out.join hS5)); clear hS5)
          go_ret3
          rw [HN.out]
          exact ⟨A5, n5, c5, f5, rfl, HS5.out.sel [0] (by decide) rfl⟩
end Go.Proofs.YtbhmdnjammnlnaaGreatDoor

namespace Go.Proofs.YtbhmdnjammnlnaaGreatDoor
open Go.RowKit
namespace Pl
theorem FoldOf.mono {h : Head} {l : List Say} (k : FoldOf h l) (x : Say) : FoldOf h (l ++ [x]) := by
  obtain ⟨m, hm, rfl⟩ := k
  exact ⟨m, by rw [List.length_append]; omega, by rw [List.take_append_of_le_length hm]⟩
theorem FoldOf.next {h : Head} {l : List Say} (k : FoldOf h l) {x : Say} (hx : l[h.Offset.toNat]? = some x) : FoldOf (takeS h x).1 l := by
  obtain ⟨m, hm, rfl⟩ := k
  have h1 := fold_off0 l m hm
  rw [h1, Int.toNat_natCast] at hx
  have h2 := (List.getElem?_eq_some_iff.1 hx).1
  exact ⟨m + 1, h2, by rw [Mm.take_succ_some hx, foldS_snoc]⟩
theorem logOut_from {g : Log} {s : ByteArray} (h : LogOk g) : from0 (logOut g s).Pieces = from0 g.Pieces := by
  have h1 := h.len.1
  obtain ⟨ps, bg⟩ := g
  dsimp only at h1
  cases ps with
  | nil => simp at h1
  | cons p t =>
    unfold logOut
    split
    · rfl
    · cases t with
      | nil => rfl
      | cons q t => rfl
theorem PartOk.next {n k : Nat} {g : Log} {a b : Head} {l : List Say} (h : PartOk n k g a b l) {x : Say} (hx : l[a.Offset.toNat]? = some x) : PartOk n k g (takeS a x).1 b l :=
  ⟨h.log, h.fr, h.bg, h.txt, h.hdf.next hx, h.kpf, by rw [takeS_off]; have := h.le; omega⟩
theorem PartOk.keep {n k : Nat} {g : Log} {a b : Head} {l : List Say} (h : PartOk n k g a b l) : PartOk n k g a a l := ⟨h.log, h.fr, h.bg, h.txt, h.hdf, h.hdf, Int.le_refl _⟩
theorem PartOk.lose {n k : Nat} {g : Log} {a b : Head} {l : List Say} (h : PartOk n k g a b l) : PartOk n k g b b l := ⟨h.log, h.fr, h.bg, h.txt, h.kpf, h.kpf, Int.le_refl _⟩
theorem PartOk.tell {n k : Nat} {g : Log} {a b : Head} {l : List Say} (h : PartOk n k g a b l) {x : Say} (hx : Pl.sayOk x = true) (hp : partN n x.Name = k) (ho : appOk g (sayTxt x) = true) : PartOk n k (logOut g (sayTxt x)) a b (l ++ [x]) := by
  obtain ⟨h20, hok⟩ := (appOk_iff h.log).1 ho
  refine ⟨hok, by rw [logOut_from h.log]; exact h.fr, by rw [logOut_bg]; exact h.bg, saysOf_iff.2 ⟨?_, fun y hy => ?_⟩, h.hdf.mono x, h.kpf.mono x, h.le⟩
  · rw [logOut_recs h.log h20, h.says.1, List.map_append]; rfl
  · rcases List.mem_append.1 hy with hy | hy
    · exact h.says.2 y hy
    · rw [List.mem_singleton] at hy; subst hy; exact ⟨hx, hp⟩
theorem HouseOk.upd {h h' : House} (H : HouseOk h) (k : Nat) (e0 : h'.Logs.length = h.Logs.length) (e1 : h'.Heads.length = h.Heads.length) (e2 : h'.Kept.length = h.Kept.length)
    (o0 : ∀ i, i ≠ k → h'.Logs[i]? = h.Logs[i]?) (o1 : ∀ i, i ≠ k → h'.Heads[i]? = h.Heads[i]?) (o2 : ∀ i, i ≠ k → h'.Kept[i]? = h.Kept[i]?)
    (hp : ∀ g a b, h'.Logs[k]? = some g → h'.Heads[k]? = some a → h'.Kept[k]? = some b → ∃ l, PartOk h.Logs.length k g a b l) : HouseOk h' := by
  refine ⟨by rw [e0]; exact H.n1, by rw [e0]; exact H.n3, by rw [e0, e1]; exact H.hdn, by rw [e0, e2]; exact H.kpn, fun i g a b hg ha hb => ?_⟩
  rw [e0]
  by_cases hi : i = k
  · subst hi; exact hp g a b hg ha hb
  · rw [o0 i hi] at hg
    rw [o1 i hi] at ha
    rw [o2 i hi] at hb
    exact H.part i g a b hg ha hb
theorem set_ne {α : Type} {l : List α} {k : Nat} {x : α} : ∀ i, i ≠ k → (l.set k x)[i]? = l[i]? := fun i hi => List.getElem?_set_ne (fun e => hi e.symm)
theorem set_me {α : Type} {l : List α} {k : Nat} {x y : α} (h : (l.set k x)[k]? = some y) : y = x := by
  have h1 := (List.getElem?_eq_some_iff.1 h).1
  rw [List.length_set] at h1
  rw [List.getElem?_set_self h1] at h
  injection h with h
  exact h.symm
def zSay : Say := ⟨⟨#[]⟩, 0, 0⟩
def noSay (x : Say) : Bool := decide (x.Name.size = 0) && decide (x.At = 0) && decide (x.Value = 0)
def zLog : Log := ⟨[], 0⟩
def zHead : Head := ⟨[], 0⟩
def sayAt (g : Log) (m : Nat) : Say := (readS ((lRecs g.Pieces).getD m ⟨#[]⟩)).getD zSay
def logK (h : House) (k : Nat) : Log := h.Logs.getD k zLog
def headK (h : House) (k : Nat) : Head := h.Heads.getD k zHead
def keptK (h : House) (k : Nat) : Head := h.Kept.getD k zHead
theorem getDz {α : Type} {l : List α} {k : Nat} {x z : α} (h : l[k]? = some x) : l.getD k z = x := by rw [List.getD_eq_getElem?_getD, h]; rfl
theorem logK_of {h : House} {k : Nat} {g : Log} (hg : h.Logs[k]? = some g) : logK h k = g := getDz hg
theorem headK_of {h : House} {k : Nat} {a : Head} (ha : h.Heads[k]? = some a) : headK h k = a := getDz ha
theorem keptK_of {h : House} {k : Nat} {a : Head} (ha : h.Kept[k]? = some a) : keptK h k = a := getDz ha
def followS (h : House) (k : Nat) : House × Bool :=
  if (headK h k).Offset < (lRecs (logK h k).Pieces).length then (⟨h.Logs, h.Heads.set k (takeS (headK h k) (sayAt (logK h k) (headK h k).Offset.toNat)).1, h.Kept⟩, true) else (h, false)
theorem sayAt_of {n k : Nat} {g : Log} {a b : Head} {l : List Say} (h : PartOk n k g a b l) {m : Nat} (hm : m < (lRecs g.Pieces).length) : ∃ x, l[m]? = some x ∧ sayAt g m = x ∧ (lRecs g.Pieces)[m]? = some (sayTxt x) ∧ readS (sayTxt x) = some x := by
  have h1 := h.says.1
  rw [h1, List.length_map] at hm
  have h2 : l[m]? = some l[m] := List.getElem?_eq_getElem hm
  have h3 : (lRecs g.Pieces)[m]? = some (sayTxt l[m]) := by rw [h1, List.getElem?_map, h2]; rfl
  have h4 := readS_of (h.sayOk _ (List.mem_of_getElem? h2))
  exact ⟨l[m], h2, by unfold sayAt; rw [List.getD_eq_getElem?_getD, h3]; show (readS (sayTxt l[m])).getD zSay = _; rw [h4]; rfl, h3, h4⟩
theorem HouseOk.follow {h : House} (H : HouseOk h) (k : Nat) : HouseOk (followS h k).1 := by
  unfold followS
  split
  · rename_i hc
    refine H.upd k rfl (List.length_set) rfl (fun _ _ => rfl) set_ne (fun _ _ => rfl) fun g a b hg ha hb => ?_
    dsimp only at hg ha hb
    have hk : k < h.Logs.length := (List.getElem?_eq_some_iff.1 hg).1
    obtain ⟨g', a', b', l, h1, h2, h3, h4⟩ := H.ex hk
    rw [hg] at h1; injection h1 with h1; subst h1
    rw [hb] at h3; injection h3 with h3; subst h3
    rw [logK_of hg, headK_of h2] at hc
    have ho := h4.head.off
    obtain ⟨x, hx, hs, -, -⟩ := sayAt_of h4 (m := a'.Offset.toNat) (by omega)
    rw [set_me ha, logK_of hg, headK_of h2, hs]
    exact ⟨l, h4.next hx⟩
  · exact H
def stepS (h : House) (s : HouseStep) : House × Bool :=
  if 0 ≤ s.Part ∧ s.Part < h.Logs.length then
    if s.Kind = 1 then
      if sayOk s.What = true ∧ partN h.Logs.length s.What.Name = s.Part ∧ appOk (logK h s.Part.toNat) (sayTxt s.What) = true then (⟨h.Logs.set s.Part.toNat (logOut (logK h s.Part.toNat) (sayTxt s.What)), h.Heads, h.Kept⟩, true) else (h, false)
    else if noSay s.What = true then
      if s.Kind = 2 then followS h s.Part.toNat
      else if s.Kind = 3 then (⟨h.Logs, h.Heads, h.Kept.set s.Part.toNat (headK h s.Part.toNat)⟩, true)
      else if s.Kind = 4 then (⟨h.Logs, h.Heads.set s.Part.toNat (keptK h s.Part.toNat), h.Kept⟩, true)
      else (h, false)
    else (h, false)
  else (h, false)
theorem HouseOk.step {h : House} (H : HouseOk h) (s : HouseStep) : HouseOk (stepS h s).1 := by
  unfold stepS
  split
  · rename_i hp
    obtain ⟨k, hk⟩ : ∃ k : Nat, s.Part = k := ⟨s.Part.toNat, by omega⟩
    have hkn : k < h.Logs.length := by omega
    obtain ⟨g, a, b, l, h1, h2, h3, h4⟩ := H.ex hkn
    rw [hk, Int.toNat_natCast]
    split
    · split
      · rename_i hc
        refine H.upd k (List.length_set) rfl rfl set_ne (fun _ _ => rfl) (fun _ _ => rfl) fun g' a' b' hg' ha' hb' => ?_
        dsimp only at hg' ha' hb'
        rw [h2] at ha'; injection ha' with ha'; subst ha'
        rw [h3] at hb'; injection hb' with hb'; subst hb'
        rw [logK_of h1] at hc
        rw [set_me hg', logK_of h1]
        exact ⟨_, h4.tell hc.1 hc.2.1 hc.2.2⟩
      · exact H
    · split
      · split
        · exact H.follow k
        · split
          · refine H.upd k rfl rfl (List.length_set) (fun _ _ => rfl) (fun _ _ => rfl) set_ne fun g' a' b' hg' ha' hb' => ?_
            dsimp only at hg' ha' hb'
            rw [h1] at hg'; injection hg' with hg'; subst hg'
            rw [h2] at ha'; injection ha' with ha'; subst ha'
            rw [set_me hb', headK_of h2]
            exact ⟨l, h4.keep⟩
          · split
            · refine H.upd k rfl (List.length_set) rfl (fun _ _ => rfl) set_ne (fun _ _ => rfl) fun g' a' b' hg' ha' hb' => ?_
              dsimp only at hg' ha' hb'
              rw [h1] at hg'; injection hg' with hg'; subst hg'
              rw [h3] at hb'; injection hb' with hb'; subst hb'
              rw [set_me ha', keptK_of h3]
              exact ⟨l, h4.lose⟩
            · exact H
      · exact H
  · exact H
end Pl
end Go.Proofs.YtbhmdnjammnlnaaGreatDoor

namespace Go.Proofs.YtbhmdnjammnlnaaGreatDoor
open Go.RowKit
attribute [local go_sem] und_cell cha_cell World.cell?_alloc_some
theorem Tryz.infoLogY : (Tryz.prog.info? 80).map (fun i => (i.zero, i.size, i.bytes)) = some (some (.agg #[.slice none 0 0, .int .i64 0]), 2, 32) := by kernel_rfl
theorem Tryz.infoHeadY : (Tryz.prog.info? 73).map (fun i => (i.zero, i.size, i.bytes)) = some (some (.agg #[.slice none 0 0, .int .i64 0]), 2, 32) := by kernel_rfl
structure Pl.HoS (h : House) : Prop where
  n3 : h.Logs.length ≤ 3
  hdn : h.Heads.length = h.Logs.length
  kpn : h.Kept.length = h.Logs.length
  lg : ∀ g, g ∈ h.Logs → Pl.LS g
  hd : ∀ a, a ∈ h.Heads → Pl.HW a
  kp : ∀ a, a ∈ h.Kept → Pl.HW a
theorem Pl.HouseOk.hos {h : House} (k : Pl.HouseOk h) : Pl.HoS h := by
  have ex : ∀ i, i < h.Logs.length → ∃ g a b, h.Logs[i]? = some g ∧ h.Heads[i]? = some a ∧ h.Kept[i]? = some b := fun i hi =>
    ⟨_, _, _, List.getElem?_eq_getElem hi, List.getElem?_eq_getElem (by rw [k.hdn]; exact hi), List.getElem?_eq_getElem (by rw [k.kpn]; exact hi)⟩
  refine ⟨k.n3, k.hdn, k.kpn, fun g hg => ?_, fun a ha => ?_, fun a ha => ?_⟩
  · obtain ⟨i, hi⟩ := List.getElem?_of_mem hg
    obtain ⟨g', a, b, h1, h2, h3⟩ := ex i (List.getElem?_eq_some_iff.1 hi).1
    obtain ⟨l, hl⟩ := k.part i g a b hi h2 h3
    exact hl.log.ls
  · obtain ⟨i, hi⟩ := List.getElem?_of_mem ha
    obtain ⟨g', a', b, h1, h2, h3⟩ := ex i (by rw [← k.hdn]; exact (List.getElem?_eq_some_iff.1 hi).1)
    obtain ⟨l, hl⟩ := k.part i g' a b h1 hi h3
    exact (hl.hdf.ok hl.sayOk (by have := hl.len; omega)).1.hw
  · obtain ⟨i, hi⟩ := List.getElem?_of_mem ha
    obtain ⟨g', a', b, h1, h2, h3⟩ := ex i (by rw [← k.kpn]; exact (List.getElem?_eq_some_iff.1 hi).1)
    obtain ⟨l, hl⟩ := k.part i g' a' a h1 h2 hi
    exact (hl.kpf.ok hl.sayOk (by have := hl.len; omega)).1.hw
def gLgA (x : Log) : Mm.Rel := fun _ _ v ds => ∃ A n c f, v = .agg #[.slice A n c, .int .i64 x.Begin] ∧ ds = [Mm.tow rLog x [.slice A n c, .int .i64 x.Begin] f]
theorem gLgA_in {x : Log} {vals : List Value} {tk : List Mm.Thing} : ∃ v ds, gLgA x vals tk v ds := ⟨_, _, none, 0, 0, [], rfl, rfl⟩
def gLgE (x : Log) : Mm.Rel := fun _ _ v ds => ∃ g A n c f, v = .slice (some ⟨g, 0, none⟩) 1 1 ∧ ds = [Mm.tblk g 80 [.slice A n c, .int .i64 x.Begin], Mm.tow rLog x [.slice A n c, .int .i64 x.Begin] f]
theorem gLgE_in {x : Log} {vals : List Value} {tk : List Mm.Thing} : ∃ v ds, gLgE x vals tk v ds := ⟨_, _, 0, none, 0, 0, [], rfl, rfl⟩
def gHdE (x : Head) : Mm.Rel := fun _ _ v ds => ∃ g A n c f, v = .slice (some ⟨g, 0, none⟩) 1 1 ∧ ds = [Mm.tblk g 73 [.slice A n c, .int .i64 x.Offset], Mm.tow rHead x [.slice A n c, .int .i64 x.Offset] f]
theorem gHdE_in {x : Head} {vals : List Value} {tk : List Mm.Thing} : ∃ v ds, gHdE x vals tk v ds := ⟨_, _, 0, none, 0, 0, [], rfl, rfl⟩
theorem Mm.SepF.nd3 {F : List Nat} {w0 wr : World} {t0 t1 t2 : Mm.Thing} {ts : List Mm.Thing} (h : Mm.SepF F w0 wr (t0 :: t1 :: t2 :: ts)) : (t0.fp ++ (t1.fp ++ t2.fp)).Nodup := by
  have := h.nd
  rw [List.flatMap_cons, List.flatMap_cons, List.flatMap_cons, ← List.append_assoc, ← List.append_assoc, List.append_assoc t0.fp] at this
  exact (List.nodup_append.1 this).1
set_option maxRecDepth 100000 in
set_option maxHeartbeats 8000000 in
theorem cloneHouse_c (h : House) (cs : List Value) (w : World) (B : Nat) (hh : rHouse.at_ w B h cs) (hB : B ≤ w.heap.size) (hs : Pl.HoS h) :
    Calls Tryz.prog 79 #[.agg cs.toArray] w (Mm.NewAg rHouse w h) := by
  obtain ⟨A0, n0, c0, A1, n1, c1, A2, n2, c2, rfl, r0, r1, r2⟩ := rHouse_at hh
  have R0 := Lib.hid r0
  have R1 := Lib.hid r1
  have R2 := Lib.hid r2
  have HS0 := Lib.hid hs
  have HNN : Hid (h.Logs.length = n0) := r0.1
  obtain rfl : n1 = n0 := by have h1 := r1.1; have h2 := r0.1; have := hs.hdn; omega
  obtain rfl : n2 = n1 := by have h1 := r2.1; have h2 := r0.1; have := hs.kpn; omega
  obtain ⟨n0, rfl⟩ : ∃ n, n = n2 := ⟨_, rfl⟩
  have HNH : Hid (h.Heads.length = n0) := r1.1
  have HNK : Hid (h.Kept.length = n0) := r2.1
  have hn3 : n0 ≤ 3 := by have := hs.n3; have := r0.1; omega
  have HBW := Lib.hid hB
  obtain ⟨iL, qL, qL0, qL1, qL2⟩ := info_parts Tryz.infoLogY
  obtain ⟨iH, qH, qH0, qH1, qH2⟩ := info_parts Tryz.infoHeadY
  clear hh r0 r1 r2 hs hB
  obtain ⟨ga, hga⟩ : ∃ g, w.heap.size = g := ⟨_, rfl⟩
  obtain ⟨gc, hgc⟩ : ∃ g, ga + 1 = g := ⟨_, rfl⟩
  obtain ⟨gp, hgp⟩ : ∃ g, gc + 1 = g := ⟨_, rfl⟩
  obtain ⟨W0, hW0⟩ : ∃ W, ((w.alloc (.cells #[.slice A0 n0 c0, .slice A1 n0 c1, .slice A2 n0 c2] 27)).alloc (.cells #[.slice none 0 0, .slice none 0 0, .slice none 0 0] 27)).alloc (.cells #[.slice none 0 0, .slice none 0 0, .slice none 0 0] 27) = W := ⟨_, rfl⟩
  have KS0 := Lib.hid ((((((Mm.SepF.start w).alloc' hga 27 [.slice A0 n0 c0, .slice A1 n0 c1, .slice A2 n0 c2]).alloc' (g := gc) (by rw [Mm.sz1, hga, hgc]) 27 [.slice none 0 0, .slice none 0 0, .slice none 0 0]).alloc' (g := gp) (by rw [Mm.sz1, Mm.sz1, hga, hgc, hgp]) 27 [.slice none 0 0, .slice none 0 0, .slice none 0 0])).atW hW0)
  have KS := Lib.hid (((KS0.out.add (Below.refl _ _) (t := Mm.tsl rHead 73 [] (.slice none 0 0) []) Mm.SlOwn.nil List.nodup_nil (fun b hb => by cases hb)).add (Below.refl _ _) (t := Mm.tsl rHead 73 [] (.slice none 0 0) []) Mm.SlOwn.nil List.nodup_nil (fun b hb => by cases hb)).add (Below.refl _ _) (t := Mm.tsl rLog 80 [] (.slice none 0 0) []) Mm.SlOwn.nil List.nodup_nil (fun b hb => by cases hb))
  have d0 := KS0.out.cell (k := 0) 2 rfl rfl
  go_enter Tryz.func79, Tryz.ntmps79
  go_upto_region 3 with fail
  clear hW0 hga hgc hgp d0 KS0
  go_loopg [9] n0 (fun gg i wr => ∃ (k : Nat) (AL : Option Addr) (cL : Nat) (fL : List Nat) (AH : Option Addr) (cH : Nat) (fH : List Nat) (AK : Option Addr) (cK : Nat) (fK : List Nat), n0 - k ≤ gg ∧ k ≤ n0 ∧ i = .int .i64 k ∧ Hid (Mm.SepF [] w wr [Mm.tsl rLog 80 (h.Logs.take k) (.slice AL k cL) fL, Mm.tsl rHead 73 (h.Heads.take k) (.slice AH k cH) fH, Mm.tsl rHead 73 (h.Kept.take k) (.slice AK k cK) fK, Mm.tblk gp 27 [.slice AL k cL, .slice AH k cH, .slice AK k cK], Mm.tblk gc 27 [.slice none 0 0, .slice none 0 0, .slice none 0 0], Mm.tblk ga 27 [.slice A0 n0 c0, .slice A1 n0 c1, .slice A2 n0 c2]]))
  case atStart => exact ⟨0, none, 0, [], none, 0, [], none, 0, [], Nat.le_refl _, Nat.zero_le _, rfl, KS.out⟩
  case round =>
    clear KS
    obtain ⟨k, AL, cL, fL, AH, cH, fH, AK, cK, fK, hgk, hk', rfl, HS⟩ := hrel
    obtain ⟨W, rfl⟩ : ∃ W : World, W = wr := ⟨_, rfl⟩
    by_cases hlt : k < n0
    · have fc : (k : Int) < (n0 : Nat) := by omega
      have hbw := Lib.hid (fun b (hb : b < B) => HS.out.bel0.block b (by have := HBW.out; omega))
      obtain ⟨x, bX, oX, AY, mY, dY, hx, rfl, hbX, hrp, hbg, e0, e1⟩ := rLog_get (R0.out.keep (w' := W) hbw.out) hlt
      have HNX := Lib.hid (Mm.take_succ_some hx)
      have HWX := Lib.hid (HS0.out.lg x (List.mem_of_getElem? hx))
      have HAT0 := Lib.hid (rLog_at_mk hrp hbg)
      obtain ⟨gl, hgl⟩ : ∃ g, W.heap.size = g := ⟨_, rfl⟩
      obtain ⟨WI, hWI⟩ : ∃ V, W.alloc (.cells #[.slice AY mY dY, .int .i64 x.Begin] 80) = V := ⟨_, rfl⟩
      have HSI := Lib.hid (((HS.out.alloc' hgl 80 [.slice AY mY dY, .int .i64 x.Begin]).sel [1, 2, 3, 4, 5, 6, 0] (by decide) rfl).atW hWI)
      have hbI : Below W.heap.size W WI := by rw [← hWI]; exact below_new (Below.refl _ _) _
      have HXAT : Hid (rLog.at_ WI B x [.slice AY mY dY, .int .i64 x.Begin]) := rLog.keep HAT0.out fun b hb => hbI.block b (by have := HBW.out; have := HS.out.bel0.size; omega)
      have nL : gl ∉ fL := fun hh => HSI.out.apart (i := 6) (j := 0) rfl rfl (by decide) gl (by simp [Mm.tblk]) hh
      go_upto_region 5 with fail
      clear hWI hgl e0 e1 hx hrp hbg hbI HS HAT0
      have q0 := HSI.out.cell (k := 0) 6 rfl rfl
      have q1 := HSI.out.cell (k := 1) 6 rfl rfl
      have b0 := HSI.out.cell (k := 0) 3 rfl rfl
      have nF : ∀ b, b < B → b ∉ fL := fun b hb hh => by
        rcases (HSI.out.slnew 0 rfl b hh).1 with h | h
        · cases h
        · have := HBW.out; omega
      have nG : gp ∉ fL := fun hh => HSI.out.apart (i := 3) (j := 0) rfl rfl (by decide) gp (by simp [Mm.tblk]) hh
      have nA : ga ∉ fL := fun hh => HSI.out.apart (i := 5) (j := 0) rfl rfl (by decide) ga (by simp [Mm.tblk]) hh
      have nX : bX ∉ fL := nF bX hbX
      have hsI : B ≤ WI.heap.size := by have := HBW.out; have := HSI.out.bel0.size; omega
      have hcl : (h.Logs.take k).length = k := by rw [List.length_take]; have := HNN.out; omega
      refine Mm.wp_region_give 7 (fun i => match i with | 3 => some (gLgA x) | 4 => some (gLgE x) | 5 => some (Mm.gSl rLog 80 (h.Logs.take k ++ [x])) | _ => none) (fun i => match i with | 4 => [3] | 5 => [4, 8] | _ => []) (fun i => match i with | 8 => [Mm.tsl rLog 80 (h.Logs.take k) (.slice AL k cL) fL] | _ => []) (F := fL) (D := fun w' => ∃ z : Cha fL WI, w' = cha fL WI z) (fun X us h => Mm.sep_cha h) (by kernel_rfl) (by kernel_rfl) (by kernel_rfl) (Mm.sep_eq ((Mm.SepF.one (Mm.tsl rLog 80 (h.Logs.take k) (.slice AL k cL) fL) WI (HSI.out.sl 0 rfl) (HSI.out.ndat (i := 0) rfl)).step (Below.refl _ _).drew) rfl) ?_
      repeat (refine Mm.give_det (by rfl) (by rfl) (by rfl) (fun K hK => ?_); go_big_quiet_op; refine hK _ ?_; clear hK K)
      refine Mm.give_op0 17 (by rfl) rfl (by rfl) (by rfl) (by rfl) (by rfl) gLgA_in (fun others X hX => ?_) ?_
      · have CC := cloneLog_c x [.slice AY mY dY, .int .i64 x.Begin] X B (rLog.keep HXAT.out fun b hb => hX.chg.block b (Nat.lt_of_lt_of_le hb hsI) (nF b hb)) (Nat.le_trans hsI hX.chg.size) HWX.out
        go_wp2_with (go_at_call 133; refine CC.mono ?_; rintro e w5 ⟨cs5, f5, rfl, ho5, hnd5, hnew5, hb5⟩; obtain ⟨A5, n5, c5, g5, rfl, rfl, -, -⟩ := rLog_own ho5)
        exact ⟨rfl, rfl, _, ⟨A5, n5, c5, _, rfl, rfl⟩, hX.add hb5 (t := Mm.tow rLog x [.slice A5 n5 c5, .int .i64 x.Begin] _) ho5 hnd5 hnew5⟩
      rintro v ds ⟨A3, m3, c3, f3, rfl, rfl⟩
      simp only [Act.put, List.setIfInBounds_toArray, List.set_cons_succ, List.set_cons_zero]
      repeat (refine Mm.give_det (by rfl) (by rfl) (by rfl) (fun K hK => ?_); go_big_quiet_op; refine hK _ ?_; clear hK K)
      refine Mm.give_op1 18 3 (by rfl) rfl (by rfl) (by rfl) (by rfl) rfl (by rfl) _ rfl gLgE_in (fun others X hX => ?_) ?_
      · go_wp2
        exact ⟨rfl, rfl, _, ⟨_, A3, m3, c3, f3, rfl, rfl⟩, hX.alloc' rfl 80 [.slice A3 m3 c3, .int .i64 x.Begin]⟩
      rintro v ds ⟨ge, A4, m4, c4, f4, rfl, rfl⟩
      simp only [Act.put, List.setIfInBounds_toArray, List.set_cons_succ, List.set_cons_zero]
      repeat (refine Mm.give_det (by rfl) (by rfl) (by rfl) (fun K hK => ?_); go_big_quiet_op; refine hK _ ?_; clear hK K)
      refine Mm.give_op2 19 4 8 (by rfl) rfl (by rfl) (by rfl) (by rfl) rfl (by rfl) (by rfl) (by rfl) _ _ rfl rfl Mm.gSl_in (fun others X6 hX6 => Mm.app_gve rfl (.tmp 15) (.tmp 18) 24 rfl 19 rfl (by rfl) iL _ 32 Tryz.underlying24 qL qL0 qL1 qL2 rfl (by decide) rfl rfl hcl (by unfold maxLen; omega) (by omega) hX6) ?_
      rintro v ds ⟨Ad, nd, cap, fpn, rfl, rfl, hnd⟩
      simp only [Act.put, List.setIfInBounds_toArray, List.set_cons_succ, List.set_cons_zero]
      repeat (refine Mm.give_det (by rfl) (by rfl) (by rfl) (fun K hK => ?_); go_big_quiet_op; refine hK _ ?_; clear hK K)
      refine Mm.give_nil ?_
      rintro X7 hX7
      have hx7 : Mm.SepF fL WI X7 [Mm.tsl rLog 80 (h.Logs.take k ++ [x]) (.slice Ad nd cap) fpn] := Mm.sep_eq hX7 rfl
      obtain rfl : nd = k + 1 := by have h1 := hnd.out; rw [List.length_append, hcl] at h1; simpa using h1
      rw [← HNX.out] at hx7
      have HSN := Lib.hid ((HSI.out.sel [0,1,2,3,4,5,6] (by decide) rfl).callSome (us := [Mm.tsl rLog 80 (h.Logs.take k) (.slice AL k cL) fL]) (rest := _) (by simpa [Mm.tsl] using hx7))
      clear hX7 hnd hx7 HSI
      have b0 := HSN.out.cell (k := 0) 3 rfl rfl
      have y0 := HSN.out.frz (k := 0) 3 rfl
      go_upto_region 6 with fail
      obtain ⟨WN, hWN⟩ : ∃ W, X7.setCell ⟨gp, 0, none⟩ (.slice Ad (k + 1) cap) = W := ⟨_, rfl⟩
      have HSJ := Lib.hid (((HSN.out.setBlk (k := 0) 3 rfl (.slice Ad (k + 1) cap)).sel [0,1,2,3,4,5] (by decide) rfl).atW hWN)
      rw [hWN]
      clear hWN HSN b0 y0 nF nG nA nX hsI hcl
      clear HNX HWX HXAT nL q0 q1 hbw
      obtain ⟨WI, rfl⟩ : ∃ W : World, W = WN := ⟨_, rfl⟩
      have HSI := HSJ
      clear HSJ
      have hbw2 := Lib.hid (fun b (hb : b < B) => HSI.out.bel0.block b (by have := HBW.out; omega))
      obtain ⟨x, bX, oX, AY, mY, dY, hx, rfl, hbX, hrp, hbg, e0, e1⟩ := rHead_get (R1.out.keep (w' := WI) hbw2.out) hlt
      have HNX := Lib.hid (Mm.take_succ_some hx)
      have HWX := Lib.hid (HS0.out.hd x (List.mem_of_getElem? hx))
      have HXAT := Lib.hid (rHead_at_mk hrp hbg)
      clear hx hrp hbg
      have q0 := HSI.out.cell (k := 1) 5 rfl rfl
      have b0 := HSI.out.cell (k := 1) 3 rfl rfl
      have fk0 : (0 : Int) ≤ (k : Nat) := by omega
      have fkt : ((k : Nat) : Int).toNat = k := by omega
      have nF : ∀ b, b < B → b ∉ fH := fun b hb hh => by
        rcases (HSI.out.slnew 1 rfl b hh).1 with h | h
        · cases h
        · have := HBW.out; omega
      have nG : gp ∉ fH := fun hh => HSI.out.apart (i := 3) (j := 1) rfl rfl (by decide) gp (by simp [Mm.tblk]) hh
      have nA : ga ∉ fH := fun hh => HSI.out.apart (i := 5) (j := 1) rfl rfl (by decide) ga (by simp [Mm.tblk]) hh
      have nX : bX ∉ fH := nF bX hbX
      have hsI : B ≤ WI.heap.size := by have := HBW.out; have := HSI.out.bel0.size; omega
      have hcl : (h.Heads.take k).length = k := by rw [List.length_take]; have := HNH.out; omega
      refine Mm.wp_region_give 11 (fun i => match i with | 7 => some (gFoldH x) | 8 => some (gHdE x) | 9 => some (Mm.gSl rHead 73 (h.Heads.take k ++ [x])) | _ => none) (fun i => match i with | 8 => [7] | 9 => [8, 12] | _ => []) (fun i => match i with | 12 => [Mm.tsl rHead 73 (h.Heads.take k) (.slice AH k cH) fH] | _ => []) (F := fH) (D := fun w' => ∃ z : Cha fH WI, w' = cha fH WI z) (fun X us h => Mm.sep_cha h) (by kernel_rfl) (by kernel_rfl) (by kernel_rfl) (Mm.sep_eq ((Mm.SepF.one (Mm.tsl rHead 73 (h.Heads.take k) (.slice AH k cH) fH) WI (HSI.out.sl 1 rfl) (HSI.out.ndat (i := 1) rfl)).step (Below.refl _ _).drew) rfl) ?_
      repeat (refine Mm.give_det (by rfl) (by rfl) (by rfl) (fun K hK => ?_); go_big_quiet_op; refine hK _ ?_; clear hK K)
      refine Mm.give_op0 28 (by rfl) rfl (by rfl) (by rfl) (by rfl) (by rfl) gFoldH_in (fun others X hX => ?_) ?_
      · have CC := cloneHead_c x [.slice AY mY dY, .int .i64 x.Offset] X B (rHead.keep HXAT.out fun b hb => hX.chg.block b (Nat.lt_of_lt_of_le hb hsI) (nF b hb)) (Nat.le_trans hsI hX.chg.size) HWX.out
        go_wp2_with (go_at_call 113; refine CC.mono ?_; rintro e w5 ⟨cs5, f5, rfl, ho5, hnd5, hnew5, hb5⟩; obtain ⟨A5, n5, c5, g5, rfl, rfl, -, -⟩ := rHead_own ho5)
        exact ⟨rfl, rfl, _, ⟨A5, n5, c5, _, rfl, rfl⟩, hX.add hb5 (t := Mm.tow rHead x [.slice A5 n5 c5, .int .i64 x.Offset] _) ho5 hnd5 hnew5⟩
      rintro v ds ⟨A3, m3, c3, f3, rfl, rfl⟩
      simp only [Act.put, List.setIfInBounds_toArray, List.set_cons_succ, List.set_cons_zero]
      repeat (refine Mm.give_det (by rfl) (by rfl) (by rfl) (fun K hK => ?_); go_big_quiet_op; refine hK _ ?_; clear hK K)
      refine Mm.give_op1 29 7 (by rfl) rfl (by rfl) (by rfl) (by rfl) rfl (by rfl) _ rfl gHdE_in (fun others X hX => ?_) ?_
      · go_wp2
        exact ⟨rfl, rfl, _, ⟨_, A3, m3, c3, f3, rfl, rfl⟩, hX.alloc' rfl 73 [.slice A3 m3 c3, .int .i64 x.Offset]⟩
      rintro v ds ⟨ge, A4, m4, c4, f4, rfl, rfl⟩
      simp only [Act.put, List.setIfInBounds_toArray, List.set_cons_succ, List.set_cons_zero]
      repeat (refine Mm.give_det (by rfl) (by rfl) (by rfl) (fun K hK => ?_); go_big_quiet_op; refine hK _ ?_; clear hK K)
      refine Mm.give_op2 30 8 12 (by rfl) rfl (by rfl) (by rfl) (by rfl) rfl (by rfl) (by rfl) (by rfl) _ _ rfl rfl Mm.gSl_in (fun others X6 hX6 => Mm.app_gve rfl (.tmp 22) (.tmp 29) 25 rfl 30 rfl (by rfl) iH _ 32 Tryz.underlying25 qH qH0 qH1 qH2 rfl (by decide) rfl rfl hcl (by unfold maxLen; omega) (by omega) hX6) ?_
      rintro v ds ⟨Ad, nd, cap, fpn, rfl, rfl, hnd⟩
      simp only [Act.put, List.setIfInBounds_toArray, List.set_cons_succ, List.set_cons_zero]
      repeat (refine Mm.give_det (by rfl) (by rfl) (by rfl) (fun K hK => ?_); go_big_quiet_op; refine hK _ ?_; clear hK K)
      refine Mm.give_nil ?_
      rintro X7 hX7
      have hx7 : Mm.SepF fH WI X7 [Mm.tsl rHead 73 (h.Heads.take k ++ [x]) (.slice Ad nd cap) fpn] := Mm.sep_eq hX7 rfl
      obtain rfl : nd = k + 1 := by have h1 := hnd.out; rw [List.length_append, hcl] at h1; simpa using h1
      rw [← HNX.out] at hx7
      have HSN := Lib.hid ((HSI.out.sel [1,0,2,3,4,5] (by decide) rfl).callSome (us := [Mm.tsl rHead 73 (h.Heads.take k) (.slice AH k cH) fH]) (rest := _) (by simpa [Mm.tsl] using hx7))
      clear hX7 hnd hx7 HSI
      have b0 := HSN.out.cell (k := 1) 3 rfl rfl
      have y0 := HSN.out.frz (k := 1) 3 rfl
      go_upto_region 7 with fail
      obtain ⟨WN, hWN⟩ : ∃ W, X7.setCell ⟨gp, 1, none⟩ (.slice Ad (k + 1) cap) = W := ⟨_, rfl⟩
      have HSJ := Lib.hid (((HSN.out.setBlk (k := 1) 3 rfl (.slice Ad (k + 1) cap)).sel [1,0,2,3,4,5] (by decide) rfl).atW hWN)
      rw [hWN]
      clear hWN HSN b0 y0 nF nG nA nX hsI hcl
      clear HNX HWX HXAT q0 hbw2
      obtain ⟨WI, rfl⟩ : ∃ W : World, W = WN := ⟨_, rfl⟩
      have HSI := HSJ
      clear HSJ
      have hbw2 := Lib.hid (fun b (hb : b < B) => HSI.out.bel0.block b (by have := HBW.out; omega))
      obtain ⟨x, bX, oX, AY, mY, dY, hx, rfl, hbX, hrp, hbg, e0, e1⟩ := rHead_get (R2.out.keep (w' := WI) hbw2.out) hlt
      have HNX := Lib.hid (Mm.take_succ_some hx)
      have HWX := Lib.hid (HS0.out.kp x (List.mem_of_getElem? hx))
      have HXAT := Lib.hid (rHead_at_mk hrp hbg)
      clear hx hrp hbg
      have q0 := HSI.out.cell (k := 2) 5 rfl rfl
      have b0 := HSI.out.cell (k := 2) 3 rfl rfl
      have fk0 : (0 : Int) ≤ (k : Nat) := by omega
      have fkt : ((k : Nat) : Int).toNat = k := by omega
      have nF : ∀ b, b < B → b ∉ fK := fun b hb hh => by
        rcases (HSI.out.slnew 2 rfl b hh).1 with h | h
        · cases h
        · have := HBW.out; omega
      have nG : gp ∉ fK := fun hh => HSI.out.apart (i := 3) (j := 2) rfl rfl (by decide) gp (by simp [Mm.tblk]) hh
      have nA : ga ∉ fK := fun hh => HSI.out.apart (i := 5) (j := 2) rfl rfl (by decide) ga (by simp [Mm.tblk]) hh
      have nX : bX ∉ fK := nF bX hbX
      have hsI : B ≤ WI.heap.size := by have := HBW.out; have := HSI.out.bel0.size; omega
      have hcl : (h.Kept.take k).length = k := by rw [List.length_take]; have := HNK.out; omega
      refine Mm.wp_region_give 11 (fun i => match i with | 7 => some (gFoldH x) | 8 => some (gHdE x) | 9 => some (Mm.gSl rHead 73 (h.Kept.take k ++ [x])) | _ => none) (fun i => match i with | 8 => [7] | 9 => [8, 12] | _ => []) (fun i => match i with | 12 => [Mm.tsl rHead 73 (h.Kept.take k) (.slice AK k cK) fK] | _ => []) (F := fK) (D := fun w' => ∃ z : Cha fK WI, w' = cha fK WI z) (fun X us h => Mm.sep_cha h) (by kernel_rfl) (by kernel_rfl) (by kernel_rfl) (Mm.sep_eq ((Mm.SepF.one (Mm.tsl rHead 73 (h.Kept.take k) (.slice AK k cK) fK) WI (HSI.out.sl 2 rfl) (HSI.out.ndat (i := 2) rfl)).step (Below.refl _ _).drew) rfl) ?_
      repeat (refine Mm.give_det (by rfl) (by rfl) (by rfl) (fun K hK => ?_); go_big_quiet_op; refine hK _ ?_; clear hK K)
      refine Mm.give_op0 39 (by rfl) rfl (by rfl) (by rfl) (by rfl) (by rfl) gFoldH_in (fun others X hX => ?_) ?_
      · have CC := cloneHead_c x [.slice AY mY dY, .int .i64 x.Offset] X B (rHead.keep HXAT.out fun b hb => hX.chg.block b (Nat.lt_of_lt_of_le hb hsI) (nF b hb)) (Nat.le_trans hsI hX.chg.size) HWX.out
        go_wp2_with (go_at_call 113; refine CC.mono ?_; rintro e w5 ⟨cs5, f5, rfl, ho5, hnd5, hnew5, hb5⟩; obtain ⟨A5, n5, c5, g5, rfl, rfl, -, -⟩ := rHead_own ho5)
        exact ⟨rfl, rfl, _, ⟨A5, n5, c5, _, rfl, rfl⟩, hX.add hb5 (t := Mm.tow rHead x [.slice A5 n5 c5, .int .i64 x.Offset] _) ho5 hnd5 hnew5⟩
      rintro v ds ⟨A3, m3, c3, f3, rfl, rfl⟩
      simp only [Act.put, List.setIfInBounds_toArray, List.set_cons_succ, List.set_cons_zero]
      repeat (refine Mm.give_det (by rfl) (by rfl) (by rfl) (fun K hK => ?_); go_big_quiet_op; refine hK _ ?_; clear hK K)
      refine Mm.give_op1 40 7 (by rfl) rfl (by rfl) (by rfl) (by rfl) rfl (by rfl) _ rfl gHdE_in (fun others X hX => ?_) ?_
      · go_wp2
        exact ⟨rfl, rfl, _, ⟨_, A3, m3, c3, f3, rfl, rfl⟩, hX.alloc' rfl 73 [.slice A3 m3 c3, .int .i64 x.Offset]⟩
      rintro v ds ⟨ge, A4, m4, c4, f4, rfl, rfl⟩
      simp only [Act.put, List.setIfInBounds_toArray, List.set_cons_succ, List.set_cons_zero]
      repeat (refine Mm.give_det (by rfl) (by rfl) (by rfl) (fun K hK => ?_); go_big_quiet_op; refine hK _ ?_; clear hK K)
      refine Mm.give_op2 41 8 12 (by rfl) rfl (by rfl) (by rfl) (by rfl) rfl (by rfl) (by rfl) (by rfl) _ _ rfl rfl Mm.gSl_in (fun others X6 hX6 => Mm.app_gve rfl (.tmp 33) (.tmp 40) 25 rfl 41 rfl (by rfl) iH _ 32 Tryz.underlying25 qH qH0 qH1 qH2 rfl (by decide) rfl rfl hcl (by unfold maxLen; omega) (by omega) hX6) ?_
      rintro v ds ⟨Ad, nd, cap, fpn, rfl, rfl, hnd⟩
      simp only [Act.put, List.setIfInBounds_toArray, List.set_cons_succ, List.set_cons_zero]
      repeat (refine Mm.give_det (by rfl) (by rfl) (by rfl) (fun K hK => ?_); go_big_quiet_op; refine hK _ ?_; clear hK K)
      refine Mm.give_nil ?_
      rintro X7 hX7
      have hx7 : Mm.SepF fK WI X7 [Mm.tsl rHead 73 (h.Kept.take k ++ [x]) (.slice Ad nd cap) fpn] := Mm.sep_eq hX7 rfl
      obtain rfl : nd = k + 1 := by have h1 := hnd.out; rw [List.length_append, hcl] at h1; simpa using h1
      rw [← HNX.out] at hx7
      have HSN := Lib.hid ((HSI.out.sel [2,0,1,3,4,5] (by decide) rfl).callSome (us := [Mm.tsl rHead 73 (h.Kept.take k) (.slice AK k cK) fK]) (rest := _) (by simpa [Mm.tsl] using hx7))
      clear hX7 hnd hx7 HSI
      have b0 := HSN.out.cell (k := 2) 3 rfl rfl
      have y0 := HSN.out.frz (k := 2) 3 rfl
      go_upto_region 8 with fail
      obtain ⟨WN, hWN⟩ : ∃ W, X7.setCell ⟨gp, 2, none⟩ (.slice Ad (k + 1) cap) = W := ⟨_, rfl⟩
      have HSJ := Lib.hid (((HSN.out.setBlk (k := 2) 3 rfl (.slice Ad (k + 1) cap)).sel [1,2,0,3,4,5] (by decide) rfl).atW hWN)
      rw [hWN]
      clear hWN HSN b0 y0 nF nG nA nX hsI hcl
      clear HNX HWX HXAT q0 hbw2
      go_wp2
      go_roundg (n0 - (k + 1))
      case measure => omega
      case rel => exact ⟨k + 1, _, _, _, _, _, _, _, _, _, Nat.le_refl _, by omega, by go_num, HSJ.out⟩
    · obtain rfl : k = n0 := by omega
      have E0 : Hid (h.Logs.take k = h.Logs) := List.take_of_length_le (by have := HNN.out; omega)
      have E1 : Hid (h.Heads.take k = h.Heads) := List.take_of_length_le (by have := HNH.out; omega)
      have E2 : Hid (h.Kept.take k = h.Kept) := List.take_of_length_le (by have := HNK.out; omega)
      rw [E0.out, E1.out, E2.out] at HS
      have fc : ¬ ((k : Nat) : Int) < (k : Nat) := by omega
      have b0 := HS.out.cell (k := 0) 3 rfl rfl
      have b1 := HS.out.cell (k := 1) 3 rfl rfl
      have b2 := HS.out.cell (k := 2) 3 rfl rfl
      have o0 := HS.out.cell (k := 0) 4 rfl rfl
      have o1 := HS.out.cell (k := 1) 4 rfl rfl
      have o2 := HS.out.cell (k := 2) 4 rfl rfl
      have z0 := HS.out.frz (k := 0) 4 rfl
      have z1 := HS.out.frz (k := 1) 4 rfl
      have z2 := HS.out.frz (k := 2) 4 rfl
      obtain ⟨WR, hWR⟩ : ∃ V, ((W.setCell ⟨gc, 0, none⟩ (.slice AL k cL)).setCell ⟨gc, 1, none⟩ (.slice AH k cH)).setCell ⟨gc, 2, none⟩ (.slice AK k cK) = V := ⟨_, rfl⟩
      have HSF := Lib.hid ((((HS.out.setBlk (k := 0) 4 rfl (.slice AL k cL)).setBlk (k := 1) 4 rfl (.slice AH k cH)).setBlk (k := 2) 4 rfl (.slice AK k cK)).atW hWR)
      have u0 := HSF.out.cell (k := 0) 4 rfl rfl
      have u1 := HSF.out.cell (k := 1) 4 rfl rfl
      have u2 := HSF.out.cell (k := 2) 4 rfl rfl
      go_wp2
      exact bodyPost_ret (v := .agg #[.slice AL k cL, .slice AH k cH, .slice AK k cK]) (by simp [results, Tryz.results79, go_sem, u0, u1, u2]) rfl ⟨_, fL ++ (fH ++ fK), rfl, rHouse_own_mk (HSF.out.sl 0 rfl) (HSF.out.sl 1 rfl) (HSF.out.sl 2 rfl), HSF.out.nd3, fun b hb => by
        rcases List.mem_append.1 hb with hb | hb
        · exact (HSF.out.new b (Mm.SepF.mem (i := 0) rfl hb)).resolve_left (fun h => by cases h)
        · rcases List.mem_append.1 hb with hb | hb
          · exact (HSF.out.new b (Mm.SepF.mem (i := 1) rfl hb)).resolve_left (fun h => by cases h)
          · exact (HSF.out.new b (Mm.SepF.mem (i := 2) rfl hb)).resolve_left (fun h => by cases h), HSF.out.bel0⟩
set_option maxRecDepth 100000 in
set_option maxHeartbeats 8000000 in
theorem l17Own_c (h : House) (cs : List Value) (w : World) (B : Nat) (hh : rHouse.at_ w B h cs) (hB : B ≤ w.heap.size) (hs : Pl.HoS h) :
    Calls Tryz.prog 54 #[.agg cs.toArray] w (Mm.NewAg rHouse w h) := by
  obtain ⟨A0, n0, c0, A1, n1, c1, A2, n2, c2, rfl, r0, r1, r2⟩ := rHouse_at hh
  have R0 := Lib.hid r0
  have R1 := Lib.hid r1
  have R2 := Lib.hid r2
  have HS0 := Lib.hid hs
  have HNN : Hid (h.Logs.length = n0) := r0.1
  obtain rfl : n1 = n0 := by have h1 := r1.1; have h2 := r0.1; have := hs.hdn; omega
  obtain rfl : n2 = n1 := by have h1 := r2.1; have h2 := r0.1; have := hs.kpn; omega
  obtain ⟨n0, rfl⟩ : ∃ n, n = n2 := ⟨_, rfl⟩
  have HNH : Hid (h.Heads.length = n0) := r1.1
  have HNK : Hid (h.Kept.length = n0) := r2.1
  have hn3 : n0 ≤ 3 := by have := hs.n3; have := r0.1; omega
  have HBW := Lib.hid hB
  obtain ⟨iL, qL, qL0, qL1, qL2⟩ := info_parts Tryz.infoLogY
  obtain ⟨iH, qH, qH0, qH1, qH2⟩ := info_parts Tryz.infoHeadY
  clear hh r0 r1 r2 hs hB
  obtain ⟨ga, hga⟩ : ∃ g, w.heap.size = g := ⟨_, rfl⟩
  obtain ⟨gc, hgc⟩ : ∃ g, ga + 1 = g := ⟨_, rfl⟩
  obtain ⟨gp, hgp⟩ : ∃ g, gc + 1 = g := ⟨_, rfl⟩
  obtain ⟨W0, hW0⟩ : ∃ W, ((w.alloc (.cells #[.slice A0 n0 c0, .slice A1 n0 c1, .slice A2 n0 c2] 27)).alloc (.cells #[.slice none 0 0, .slice none 0 0, .slice none 0 0] 27)).alloc (.cells #[.slice none 0 0, .slice none 0 0, .slice none 0 0] 27) = W := ⟨_, rfl⟩
  have KS0 := Lib.hid ((((((Mm.SepF.start w).alloc' hga 27 [.slice A0 n0 c0, .slice A1 n0 c1, .slice A2 n0 c2]).alloc' (g := gc) (by rw [Mm.sz1, hga, hgc]) 27 [.slice none 0 0, .slice none 0 0, .slice none 0 0]).alloc' (g := gp) (by rw [Mm.sz1, Mm.sz1, hga, hgc, hgp]) 27 [.slice none 0 0, .slice none 0 0, .slice none 0 0])).atW hW0)
  have KS := Lib.hid (((KS0.out.add (Below.refl _ _) (t := Mm.tsl rHead 73 [] (.slice none 0 0) []) Mm.SlOwn.nil List.nodup_nil (fun b hb => by cases hb)).add (Below.refl _ _) (t := Mm.tsl rHead 73 [] (.slice none 0 0) []) Mm.SlOwn.nil List.nodup_nil (fun b hb => by cases hb)).add (Below.refl _ _) (t := Mm.tsl rLog 80 [] (.slice none 0 0) []) Mm.SlOwn.nil List.nodup_nil (fun b hb => by cases hb))
  have d0 := KS0.out.cell (k := 0) 2 rfl rfl
  go_enter Tryz.func54, Tryz.ntmps54
  go_upto_region 3 with fail
  clear hW0 hga hgc hgp d0 KS0
  go_loopg [8] n0 (fun gg i wr => ∃ (k : Nat) (AL : Option Addr) (cL : Nat) (fL : List Nat) (AH : Option Addr) (cH : Nat) (fH : List Nat) (AK : Option Addr) (cK : Nat) (fK : List Nat), n0 - k ≤ gg ∧ k ≤ n0 ∧ i = .int .i64 k ∧ Hid (Mm.SepF [] w wr [Mm.tsl rLog 80 (h.Logs.take k) (.slice AL k cL) fL, Mm.tsl rHead 73 (h.Heads.take k) (.slice AH k cH) fH, Mm.tsl rHead 73 (h.Kept.take k) (.slice AK k cK) fK, Mm.tblk gp 27 [.slice AL k cL, .slice AH k cH, .slice AK k cK], Mm.tblk gc 27 [.slice none 0 0, .slice none 0 0, .slice none 0 0], Mm.tblk ga 27 [.slice A0 n0 c0, .slice A1 n0 c1, .slice A2 n0 c2]]))
  case atStart => exact ⟨0, none, 0, [], none, 0, [], none, 0, [], Nat.le_refl _, Nat.zero_le _, rfl, KS.out⟩
  case round =>
    clear KS
    obtain ⟨k, AL, cL, fL, AH, cH, fH, AK, cK, fK, hgk, hk', rfl, HS⟩ := hrel
    obtain ⟨W, rfl⟩ : ∃ W : World, W = wr := ⟨_, rfl⟩
    by_cases hlt : k < n0
    · have fc : (k : Int) < (n0 : Nat) := by omega
      have HSI := HS
      obtain ⟨WI, rfl⟩ : ∃ V : World, V = W := ⟨_, rfl⟩
      clear HS
      have hbw := Lib.hid (fun b (hb : b < B) => HSI.out.bel0.block b (by have := HBW.out; omega))
      obtain ⟨x, bX, oX, AY, mY, dY, hx, rfl, hbX, hrp, hbg, e0, e1⟩ := rLog_get (R0.out.keep (w' := WI) hbw.out) hlt
      have HNX := Lib.hid (Mm.take_succ_some hx)
      have HWX := Lib.hid (HS0.out.lg x (List.mem_of_getElem? hx))
      have HXAT := Lib.hid (rLog_at_mk hrp hbg)
      clear hx hrp hbg
      go_upto_region 5 with fail
      have q0 := HSI.out.cell (k := 0) 5 rfl rfl
      have b0 := HSI.out.cell (k := 0) 3 rfl rfl
      have fk0 : (0 : Int) ≤ (k : Nat) := by omega
      have fkt : ((k : Nat) : Int).toNat = k := by omega
      have nF : ∀ b, b < B → b ∉ fL := fun b hb hh => by
        rcases (HSI.out.slnew 0 rfl b hh).1 with h | h
        · cases h
        · have := HBW.out; omega
      have nG : gp ∉ fL := fun hh => HSI.out.apart (i := 3) (j := 0) rfl rfl (by decide) gp (by simp [Mm.tblk]) hh
      have nA : ga ∉ fL := fun hh => HSI.out.apart (i := 5) (j := 0) rfl rfl (by decide) ga (by simp [Mm.tblk]) hh
      have nX : bX ∉ fL := nF bX hbX
      have hsI : B ≤ WI.heap.size := by have := HBW.out; have := HSI.out.bel0.size; omega
      have hcl : (h.Logs.take k).length = k := by rw [List.length_take]; have := HNN.out; omega
      refine Mm.wp_region_give 11 (fun i => match i with | 7 => some (gLgA x) | 8 => some (gLgE x) | 9 => some (Mm.gSl rLog 80 (h.Logs.take k ++ [x])) | _ => none) (fun i => match i with | 8 => [7] | 9 => [8, 12] | _ => []) (fun i => match i with | 12 => [Mm.tsl rLog 80 (h.Logs.take k) (.slice AL k cL) fL] | _ => []) (F := fL) (D := fun w' => ∃ z : Cha fL WI, w' = cha fL WI z) (fun X us h => Mm.sep_cha h) (by kernel_rfl) (by kernel_rfl) (by kernel_rfl) (Mm.sep_eq ((Mm.SepF.one (Mm.tsl rLog 80 (h.Logs.take k) (.slice AL k cL) fL) WI (HSI.out.sl 0 rfl) (HSI.out.ndat (i := 0) rfl)).step (Below.refl _ _).drew) rfl) ?_
      repeat (refine Mm.give_det (by rfl) (by rfl) (by rfl) (fun K hK => ?_); go_big_quiet_op; refine hK _ ?_; clear hK K)
      refine Mm.give_op0 18 (by rfl) rfl (by rfl) (by rfl) (by rfl) (by rfl) gLgA_in (fun others X hX => ?_) ?_
      · have CC := l6Own_c x [.slice AY mY dY, .int .i64 x.Begin] X B (rLog.keep HXAT.out fun b hb => hX.chg.block b (Nat.lt_of_lt_of_le hb hsI) (nF b hb)) (Nat.le_trans hsI hX.chg.size) HWX.out
        go_wp2_with (go_at_call 108; refine CC.mono ?_; rintro e w5 ⟨cs5, f5, rfl, ho5, hnd5, hnew5, hb5⟩; obtain ⟨A5, n5, c5, g5, rfl, rfl, -, -⟩ := rLog_own ho5)
        exact ⟨rfl, rfl, _, ⟨A5, n5, c5, _, rfl, rfl⟩, hX.add hb5 (t := Mm.tow rLog x [.slice A5 n5 c5, .int .i64 x.Begin] _) ho5 hnd5 hnew5⟩
      rintro v ds ⟨A3, m3, c3, f3, rfl, rfl⟩
      simp only [Act.put, List.setIfInBounds_toArray, List.set_cons_succ, List.set_cons_zero]
      repeat (refine Mm.give_det (by rfl) (by rfl) (by rfl) (fun K hK => ?_); go_big_quiet_op; refine hK _ ?_; clear hK K)
      refine Mm.give_op1 19 7 (by rfl) rfl (by rfl) (by rfl) (by rfl) rfl (by rfl) _ rfl gLgE_in (fun others X hX => ?_) ?_
      · go_wp2
        exact ⟨rfl, rfl, _, ⟨_, A3, m3, c3, f3, rfl, rfl⟩, hX.alloc' rfl 80 [.slice A3 m3 c3, .int .i64 x.Begin]⟩
      rintro v ds ⟨ge, A4, m4, c4, f4, rfl, rfl⟩
      simp only [Act.put, List.setIfInBounds_toArray, List.set_cons_succ, List.set_cons_zero]
      repeat (refine Mm.give_det (by rfl) (by rfl) (by rfl) (fun K hK => ?_); go_big_quiet_op; refine hK _ ?_; clear hK K)
      refine Mm.give_op2 20 8 12 (by rfl) rfl (by rfl) (by rfl) (by rfl) rfl (by rfl) (by rfl) (by rfl) _ _ rfl rfl Mm.gSl_in (fun others X6 hX6 => Mm.app_gve rfl (.tmp 12) (.tmp 19) 24 rfl 20 rfl (by rfl) iL _ 32 Tryz.underlying24 qL qL0 qL1 qL2 rfl (by decide) rfl rfl hcl (by unfold maxLen; omega) (by omega) hX6) ?_
      rintro v ds ⟨Ad, nd, cap, fpn, rfl, rfl, hnd⟩
      simp only [Act.put, List.setIfInBounds_toArray, List.set_cons_succ, List.set_cons_zero]
      repeat (refine Mm.give_det (by rfl) (by rfl) (by rfl) (fun K hK => ?_); go_big_quiet_op; refine hK _ ?_; clear hK K)
      refine Mm.give_nil ?_
      rintro X7 hX7
      have hx7 : Mm.SepF fL WI X7 [Mm.tsl rLog 80 (h.Logs.take k ++ [x]) (.slice Ad nd cap) fpn] := Mm.sep_eq hX7 rfl
      obtain rfl : nd = k + 1 := by have h1 := hnd.out; rw [List.length_append, hcl] at h1; simpa using h1
      rw [← HNX.out] at hx7
      have HSN := Lib.hid ((HSI.out.sel [0,1,2,3,4,5] (by decide) rfl).callSome (us := [Mm.tsl rLog 80 (h.Logs.take k) (.slice AL k cL) fL]) (rest := _) (by simpa [Mm.tsl] using hx7))
      clear hX7 hnd hx7 HSI
      have b0 := HSN.out.cell (k := 0) 3 rfl rfl
      have y0 := HSN.out.frz (k := 0) 3 rfl
      go_upto_region 6 with fail
      obtain ⟨WN, hWN⟩ : ∃ W, X7.setCell ⟨gp, 0, none⟩ (.slice Ad (k + 1) cap) = W := ⟨_, rfl⟩
      have HSJ := Lib.hid (((HSN.out.setBlk (k := 0) 3 rfl (.slice Ad (k + 1) cap)).sel [0,1,2,3,4,5] (by decide) rfl).atW hWN)
      rw [hWN]
      clear hWN HSN b0 y0 nF nG nA nX hsI hcl
      clear HNX HWX HXAT q0 hbw fk0 fkt
      obtain ⟨WI, rfl⟩ : ∃ W : World, W = WN := ⟨_, rfl⟩
      have HSI := HSJ
      clear HSJ
      have hbw2 := Lib.hid (fun b (hb : b < B) => HSI.out.bel0.block b (by have := HBW.out; omega))
      obtain ⟨x, bX, oX, AY, mY, dY, hx, rfl, hbX, hrp, hbg, e0, e1⟩ := rHead_get (R1.out.keep (w' := WI) hbw2.out) hlt
      have HNX := Lib.hid (Mm.take_succ_some hx)
      have HWX := Lib.hid (HS0.out.hd x (List.mem_of_getElem? hx))
      have HXAT := Lib.hid (rHead_at_mk hrp hbg)
      clear hx hrp hbg
      have q0 := HSI.out.cell (k := 1) 5 rfl rfl
      have b0 := HSI.out.cell (k := 1) 3 rfl rfl
      have fk0 : (0 : Int) ≤ (k : Nat) := by omega
      have fkt : ((k : Nat) : Int).toNat = k := by omega
      have nF : ∀ b, b < B → b ∉ fH := fun b hb hh => by
        rcases (HSI.out.slnew 1 rfl b hh).1 with h | h
        · cases h
        · have := HBW.out; omega
      have nG : gp ∉ fH := fun hh => HSI.out.apart (i := 3) (j := 1) rfl rfl (by decide) gp (by simp [Mm.tblk]) hh
      have nA : ga ∉ fH := fun hh => HSI.out.apart (i := 5) (j := 1) rfl rfl (by decide) ga (by simp [Mm.tblk]) hh
      have nX : bX ∉ fH := nF bX hbX
      have hsI : B ≤ WI.heap.size := by have := HBW.out; have := HSI.out.bel0.size; omega
      have hcl : (h.Heads.take k).length = k := by rw [List.length_take]; have := HNH.out; omega
      refine Mm.wp_region_give 11 (fun i => match i with | 7 => some (gFoldH x) | 8 => some (gHdE x) | 9 => some (Mm.gSl rHead 73 (h.Heads.take k ++ [x])) | _ => none) (fun i => match i with | 8 => [7] | 9 => [8, 12] | _ => []) (fun i => match i with | 12 => [Mm.tsl rHead 73 (h.Heads.take k) (.slice AH k cH) fH] | _ => []) (F := fH) (D := fun w' => ∃ z : Cha fH WI, w' = cha fH WI z) (fun X us h => Mm.sep_cha h) (by kernel_rfl) (by kernel_rfl) (by kernel_rfl) (Mm.sep_eq ((Mm.SepF.one (Mm.tsl rHead 73 (h.Heads.take k) (.slice AH k cH) fH) WI (HSI.out.sl 1 rfl) (HSI.out.ndat (i := 1) rfl)).step (Below.refl _ _).drew) rfl) ?_
      repeat (refine Mm.give_det (by rfl) (by rfl) (by rfl) (fun K hK => ?_); go_big_quiet_op; refine hK _ ?_; clear hK K)
      refine Mm.give_op0 29 (by rfl) rfl (by rfl) (by rfl) (by rfl) (by rfl) gFoldH_in (fun others X hX => ?_) ?_
      · have CC := l13Own_c x [.slice AY mY dY, .int .i64 x.Offset] X B (rHead.keep HXAT.out fun b hb => hX.chg.block b (Nat.lt_of_lt_of_le hb hsI) (nF b hb)) (Nat.le_trans hsI hX.chg.size) HWX.out
        go_wp2_with (go_at_call 107; refine CC.mono ?_; rintro e w5 ⟨cs5, f5, rfl, ho5, hnd5, hnew5, hb5⟩; obtain ⟨A5, n5, c5, g5, rfl, rfl, -, -⟩ := rHead_own ho5)
        exact ⟨rfl, rfl, _, ⟨A5, n5, c5, _, rfl, rfl⟩, hX.add hb5 (t := Mm.tow rHead x [.slice A5 n5 c5, .int .i64 x.Offset] _) ho5 hnd5 hnew5⟩
      rintro v ds ⟨A3, m3, c3, f3, rfl, rfl⟩
      simp only [Act.put, List.setIfInBounds_toArray, List.set_cons_succ, List.set_cons_zero]
      repeat (refine Mm.give_det (by rfl) (by rfl) (by rfl) (fun K hK => ?_); go_big_quiet_op; refine hK _ ?_; clear hK K)
      refine Mm.give_op1 30 7 (by rfl) rfl (by rfl) (by rfl) (by rfl) rfl (by rfl) _ rfl gHdE_in (fun others X hX => ?_) ?_
      · go_wp2
        exact ⟨rfl, rfl, _, ⟨_, A3, m3, c3, f3, rfl, rfl⟩, hX.alloc' rfl 73 [.slice A3 m3 c3, .int .i64 x.Offset]⟩
      rintro v ds ⟨ge, A4, m4, c4, f4, rfl, rfl⟩
      simp only [Act.put, List.setIfInBounds_toArray, List.set_cons_succ, List.set_cons_zero]
      repeat (refine Mm.give_det (by rfl) (by rfl) (by rfl) (fun K hK => ?_); go_big_quiet_op; refine hK _ ?_; clear hK K)
      refine Mm.give_op2 31 8 12 (by rfl) rfl (by rfl) (by rfl) (by rfl) rfl (by rfl) (by rfl) (by rfl) _ _ rfl rfl Mm.gSl_in (fun others X6 hX6 => Mm.app_gve rfl (.tmp 23) (.tmp 30) 25 rfl 31 rfl (by rfl) iH _ 32 Tryz.underlying25 qH qH0 qH1 qH2 rfl (by decide) rfl rfl hcl (by unfold maxLen; omega) (by omega) hX6) ?_
      rintro v ds ⟨Ad, nd, cap, fpn, rfl, rfl, hnd⟩
      simp only [Act.put, List.setIfInBounds_toArray, List.set_cons_succ, List.set_cons_zero]
      repeat (refine Mm.give_det (by rfl) (by rfl) (by rfl) (fun K hK => ?_); go_big_quiet_op; refine hK _ ?_; clear hK K)
      refine Mm.give_nil ?_
      rintro X7 hX7
      have hx7 : Mm.SepF fH WI X7 [Mm.tsl rHead 73 (h.Heads.take k ++ [x]) (.slice Ad nd cap) fpn] := Mm.sep_eq hX7 rfl
      obtain rfl : nd = k + 1 := by have h1 := hnd.out; rw [List.length_append, hcl] at h1; simpa using h1
      rw [← HNX.out] at hx7
      have HSN := Lib.hid ((HSI.out.sel [1,0,2,3,4,5] (by decide) rfl).callSome (us := [Mm.tsl rHead 73 (h.Heads.take k) (.slice AH k cH) fH]) (rest := _) (by simpa [Mm.tsl] using hx7))
      clear hX7 hnd hx7 HSI
      have b0 := HSN.out.cell (k := 1) 3 rfl rfl
      have y0 := HSN.out.frz (k := 1) 3 rfl
      go_upto_region 7 with fail
      obtain ⟨WN, hWN⟩ : ∃ W, X7.setCell ⟨gp, 1, none⟩ (.slice Ad (k + 1) cap) = W := ⟨_, rfl⟩
      have HSJ := Lib.hid (((HSN.out.setBlk (k := 1) 3 rfl (.slice Ad (k + 1) cap)).sel [1,0,2,3,4,5] (by decide) rfl).atW hWN)
      rw [hWN]
      clear hWN HSN b0 y0 nF nG nA nX hsI hcl
      clear HNX HWX HXAT q0 hbw2 fk0 fkt
      obtain ⟨WI, rfl⟩ : ∃ W : World, W = WN := ⟨_, rfl⟩
      have HSI := HSJ
      clear HSJ
      have hbw2 := Lib.hid (fun b (hb : b < B) => HSI.out.bel0.block b (by have := HBW.out; omega))
      obtain ⟨x, bX, oX, AY, mY, dY, hx, rfl, hbX, hrp, hbg, e0, e1⟩ := rHead_get (R2.out.keep (w' := WI) hbw2.out) hlt
      have HNX := Lib.hid (Mm.take_succ_some hx)
      have HWX := Lib.hid (HS0.out.kp x (List.mem_of_getElem? hx))
      have HXAT := Lib.hid (rHead_at_mk hrp hbg)
      clear hx hrp hbg
      have q0 := HSI.out.cell (k := 2) 5 rfl rfl
      have b0 := HSI.out.cell (k := 2) 3 rfl rfl
      have fk0 : (0 : Int) ≤ (k : Nat) := by omega
      have fkt : ((k : Nat) : Int).toNat = k := by omega
      have nF : ∀ b, b < B → b ∉ fK := fun b hb hh => by
        rcases (HSI.out.slnew 2 rfl b hh).1 with h | h
        · cases h
        · have := HBW.out; omega
      have nG : gp ∉ fK := fun hh => HSI.out.apart (i := 3) (j := 2) rfl rfl (by decide) gp (by simp [Mm.tblk]) hh
      have nA : ga ∉ fK := fun hh => HSI.out.apart (i := 5) (j := 2) rfl rfl (by decide) ga (by simp [Mm.tblk]) hh
      have nX : bX ∉ fK := nF bX hbX
      have hsI : B ≤ WI.heap.size := by have := HBW.out; have := HSI.out.bel0.size; omega
      have hcl : (h.Kept.take k).length = k := by rw [List.length_take]; have := HNK.out; omega
      refine Mm.wp_region_give 11 (fun i => match i with | 7 => some (gFoldH x) | 8 => some (gHdE x) | 9 => some (Mm.gSl rHead 73 (h.Kept.take k ++ [x])) | _ => none) (fun i => match i with | 8 => [7] | 9 => [8, 12] | _ => []) (fun i => match i with | 12 => [Mm.tsl rHead 73 (h.Kept.take k) (.slice AK k cK) fK] | _ => []) (F := fK) (D := fun w' => ∃ z : Cha fK WI, w' = cha fK WI z) (fun X us h => Mm.sep_cha h) (by kernel_rfl) (by kernel_rfl) (by kernel_rfl) (Mm.sep_eq ((Mm.SepF.one (Mm.tsl rHead 73 (h.Kept.take k) (.slice AK k cK) fK) WI (HSI.out.sl 2 rfl) (HSI.out.ndat (i := 2) rfl)).step (Below.refl _ _).drew) rfl) ?_
      repeat (refine Mm.give_det (by rfl) (by rfl) (by rfl) (fun K hK => ?_); go_big_quiet_op; refine hK _ ?_; clear hK K)
      refine Mm.give_op0 40 (by rfl) rfl (by rfl) (by rfl) (by rfl) (by rfl) gFoldH_in (fun others X hX => ?_) ?_
      · have CC := l13Own_c x [.slice AY mY dY, .int .i64 x.Offset] X B (rHead.keep HXAT.out fun b hb => hX.chg.block b (Nat.lt_of_lt_of_le hb hsI) (nF b hb)) (Nat.le_trans hsI hX.chg.size) HWX.out
        go_wp2_with (go_at_call 107; refine CC.mono ?_; rintro e w5 ⟨cs5, f5, rfl, ho5, hnd5, hnew5, hb5⟩; obtain ⟨A5, n5, c5, g5, rfl, rfl, -, -⟩ := rHead_own ho5)
        exact ⟨rfl, rfl, _, ⟨A5, n5, c5, _, rfl, rfl⟩, hX.add hb5 (t := Mm.tow rHead x [.slice A5 n5 c5, .int .i64 x.Offset] _) ho5 hnd5 hnew5⟩
      rintro v ds ⟨A3, m3, c3, f3, rfl, rfl⟩
      simp only [Act.put, List.setIfInBounds_toArray, List.set_cons_succ, List.set_cons_zero]
      repeat (refine Mm.give_det (by rfl) (by rfl) (by rfl) (fun K hK => ?_); go_big_quiet_op; refine hK _ ?_; clear hK K)
      refine Mm.give_op1 41 7 (by rfl) rfl (by rfl) (by rfl) (by rfl) rfl (by rfl) _ rfl gHdE_in (fun others X hX => ?_) ?_
      · go_wp2
        exact ⟨rfl, rfl, _, ⟨_, A3, m3, c3, f3, rfl, rfl⟩, hX.alloc' rfl 73 [.slice A3 m3 c3, .int .i64 x.Offset]⟩
      rintro v ds ⟨ge, A4, m4, c4, f4, rfl, rfl⟩
      simp only [Act.put, List.setIfInBounds_toArray, List.set_cons_succ, List.set_cons_zero]
      repeat (refine Mm.give_det (by rfl) (by rfl) (by rfl) (fun K hK => ?_); go_big_quiet_op; refine hK _ ?_; clear hK K)
      refine Mm.give_op2 42 8 12 (by rfl) rfl (by rfl) (by rfl) (by rfl) rfl (by rfl) (by rfl) (by rfl) _ _ rfl rfl Mm.gSl_in (fun others X6 hX6 => Mm.app_gve rfl (.tmp 34) (.tmp 41) 25 rfl 42 rfl (by rfl) iH _ 32 Tryz.underlying25 qH qH0 qH1 qH2 rfl (by decide) rfl rfl hcl (by unfold maxLen; omega) (by omega) hX6) ?_
      rintro v ds ⟨Ad, nd, cap, fpn, rfl, rfl, hnd⟩
      simp only [Act.put, List.setIfInBounds_toArray, List.set_cons_succ, List.set_cons_zero]
      repeat (refine Mm.give_det (by rfl) (by rfl) (by rfl) (fun K hK => ?_); go_big_quiet_op; refine hK _ ?_; clear hK K)
      refine Mm.give_nil ?_
      rintro X7 hX7
      have hx7 : Mm.SepF fK WI X7 [Mm.tsl rHead 73 (h.Kept.take k ++ [x]) (.slice Ad nd cap) fpn] := Mm.sep_eq hX7 rfl
      obtain rfl : nd = k + 1 := by have h1 := hnd.out; rw [List.length_append, hcl] at h1; simpa using h1
      rw [← HNX.out] at hx7
      have HSN := Lib.hid ((HSI.out.sel [2,0,1,3,4,5] (by decide) rfl).callSome (us := [Mm.tsl rHead 73 (h.Kept.take k) (.slice AK k cK) fK]) (rest := _) (by simpa [Mm.tsl] using hx7))
      clear hX7 hnd hx7 HSI
      have b0 := HSN.out.cell (k := 2) 3 rfl rfl
      have y0 := HSN.out.frz (k := 2) 3 rfl
      go_upto_region 8 with fail
      obtain ⟨WN, hWN⟩ : ∃ W, X7.setCell ⟨gp, 2, none⟩ (.slice Ad (k + 1) cap) = W := ⟨_, rfl⟩
      have HSJ := Lib.hid (((HSN.out.setBlk (k := 2) 3 rfl (.slice Ad (k + 1) cap)).sel [1,2,0,3,4,5] (by decide) rfl).atW hWN)
      rw [hWN]
      clear hWN HSN b0 y0 nF nG nA nX hsI hcl
      clear HNX HWX HXAT q0 hbw2
      go_wp2
      go_roundg (n0 - (k + 1))
      case measure => omega
      case rel => exact ⟨k + 1, _, _, _, _, _, _, _, _, _, Nat.le_refl _, by omega, by go_num, HSJ.out⟩
    · obtain rfl : k = n0 := by omega
      have E0 : Hid (h.Logs.take k = h.Logs) := List.take_of_length_le (by have := HNN.out; omega)
      have E1 : Hid (h.Heads.take k = h.Heads) := List.take_of_length_le (by have := HNH.out; omega)
      have E2 : Hid (h.Kept.take k = h.Kept) := List.take_of_length_le (by have := HNK.out; omega)
      rw [E0.out, E1.out, E2.out] at HS
      have fc : ¬ ((k : Nat) : Int) < (k : Nat) := by omega
      have b0 := HS.out.cell (k := 0) 3 rfl rfl
      have b1 := HS.out.cell (k := 1) 3 rfl rfl
      have b2 := HS.out.cell (k := 2) 3 rfl rfl
      have o0 := HS.out.cell (k := 0) 4 rfl rfl
      have o1 := HS.out.cell (k := 1) 4 rfl rfl
      have o2 := HS.out.cell (k := 2) 4 rfl rfl
      have z0 := HS.out.frz (k := 0) 4 rfl
      have z1 := HS.out.frz (k := 1) 4 rfl
      have z2 := HS.out.frz (k := 2) 4 rfl
      obtain ⟨WR, hWR⟩ : ∃ V, ((W.setCell ⟨gc, 0, none⟩ (.slice AL k cL)).setCell ⟨gc, 1, none⟩ (.slice AH k cH)).setCell ⟨gc, 2, none⟩ (.slice AK k cK) = V := ⟨_, rfl⟩
      have HSF := Lib.hid ((((HS.out.setBlk (k := 0) 4 rfl (.slice AL k cL)).setBlk (k := 1) 4 rfl (.slice AH k cH)).setBlk (k := 2) 4 rfl (.slice AK k cK)).atW hWR)
      have u0 := HSF.out.cell (k := 0) 4 rfl rfl
      have u1 := HSF.out.cell (k := 1) 4 rfl rfl
      have u2 := HSF.out.cell (k := 2) 4 rfl rfl
      go_wp2
      exact bodyPost_ret (v := .agg #[.slice AL k cL, .slice AH k cH, .slice AK k cK]) (by simp [results, Tryz.results54, go_sem, u0, u1, u2]) rfl ⟨_, fL ++ (fH ++ fK), rfl, rHouse_own_mk (HSF.out.sl 0 rfl) (HSF.out.sl 1 rfl) (HSF.out.sl 2 rfl), HSF.out.nd3, fun b hb => by
        rcases List.mem_append.1 hb with hb | hb
        · exact (HSF.out.new b (Mm.SepF.mem (i := 0) rfl hb)).resolve_left (fun h => by cases h)
        · rcases List.mem_append.1 hb with hb | hb
          · exact (HSF.out.new b (Mm.SepF.mem (i := 1) rfl hb)).resolve_left (fun h => by cases h)
          · exact (HSF.out.new b (Mm.SepF.mem (i := 2) rfl hb)).resolve_left (fun h => by cases h), HSF.out.bel0⟩
end Go.Proofs.YtbhmdnjammnlnaaGreatDoor

namespace Go.Proofs.YtbhmdnjammnlnaaGreatDoor
open Go.RowKit
attribute [local go_sem] und_cell cha_cell World.cell?_alloc_some
def HoSep (w0 w : World) (h : House) (gp : Nat) (rest : List Mm.Thing) : Prop :=
  ∃ (n : Nat) (AL : Option Addr) (cL : Nat) (fL : List Nat) (AH : Option Addr) (cH : Nat) (fH : List Nat) (AK : Option Addr) (cK : Nat) (fK : List Nat),
    Mm.SepF [] w0 w (Mm.tsl rLog 80 h.Logs (.slice AL n cL) fL :: Mm.tsl rHead 73 h.Heads (.slice AH n cH) fH :: Mm.tsl rHead 73 h.Kept (.slice AK n cK) fK :: Mm.tblk gp 27 [.slice AL n cL, .slice AH n cH, .slice AK n cK] :: rest)
theorem Mm.SlOwn.nlen {α : Type} {E : Mm.Rep α} {e : TypeId} {w : World} {xs : List α} {A : Option Addr} {n c : Nat} {fp : List Nat} (h : Mm.SlOwn E e w xs (.slice A n c) fp) : xs.length = n := by
  obtain ⟨_, _, _, hv, q1, _⟩ := h.form
  injection hv with _ q2 _
  exact (q2.trans q1).symm
structure HoAt (h : House) (k : Nat) (g : Log) (a b : Head) (l : List Say) : Prop where
  lg : h.Logs[k]? = some g
  hd : h.Heads[k]? = some a
  kp : h.Kept[k]? = some b
  p : Pl.PartOk h.Logs.length k g a b l
  n3 : h.Logs.length ≤ 3
theorem Pl.PartOk.mo {n k : Nat} {g : Log} {hd kp : Head} {l : List Say} (h : Pl.PartOk n k g hd kp l) : 0 ≤ hd.Offset ∧ hd.Offset ≤ 60 := by
  have h1 := (h.hdf.ok h.sayOk (by have := h.len; omega)).2.1
  have := h.len
  have := h.head.off
  omega
set_option maxRecDepth 100000 in
set_option maxHeartbeats 4000000 in
theorem follow_c (h : House) (k gp Bt : Nat) (rest : List Mm.Thing) (g : Log) (a b : Head) (l : List Say) (at_ : HoAt h k g a b l) (w0 w : World) (ht : Tab Bt w0) (hs : HoSep w0 w h gp rest) :
    Calls Tryz.prog 112 #[.pointer (some ⟨gp, 0, none⟩), .int .i64 (k : Nat)] w fun e w' => e = .returned (.bool (Pl.followS h k).2) ∧ HoSep w0 w' (Pl.followS h k).1 gp rest := by
  obtain ⟨n, AL, cL, fL, AH, cH, fH, AK, cK, fK, hS⟩ := hs
  have HNN : Hid (h.Logs.length = n) := (hS.sl 0 rfl).nlen
  have HNH : Hid (h.Heads.length = n) := (hS.sl 1 rfl).nlen
  have hkn : k < n := by have := (List.getElem?_eq_some_iff.1 at_.lg).1; have := HNN.out; omega
  obtain ⟨gH, rfl, -, -⟩ := Mm.sl_addr (hS.sl 1 rfl) (by have := HNH.out; omega)
  have HS := Lib.hid hS
  have HA := Lib.hid at_
  have HW0 := Lib.hid ht
  clear hS at_ ht
  have p0 := HS.out.cell (k := 0) 3 rfl rfl
  have p1 := HS.out.cell (k := 1) 3 rfl rfl
  have fk0 : (0 : Int) ≤ (k : Nat) := by omega
  have fkt : ((k : Nat) : Int).toNat = k := by omega
  have fkn : (k : Int) < (n : Nat) := by omega
  obtain ⟨x, bX, oX, AP, mP, cP, hx, rfl, hbX, hrp, hbg, e0, e1⟩ := rLog_get (HS.out.rdSl 0 rfl) hkn
  obtain rfl : x = g := by have := HA.out.lg; rw [hx] at this; injection this
  have CA := logAll_c x.Pieces x.Begin AP mP cP w w.heap.size hrp (Nat.le_refl _) (by have := hrp.1; have := HA.out.p.log.len.2; omega) HA.out.p.log.sizes
  clear hx hrp hbg
  go_enter Tryz.func112, Tryz.ntmps112
  go_wp2_with fail
  refine CA.mono ?_
  rintro e w1 ⟨A5, m5, c5, f5, rfl, hm5, hS5⟩
  obtain ⟨W1, rfl⟩ : ∃ W : World, W = w1 := ⟨_, rfl⟩
  have HS1 := Lib.hid (HS.out.join hS5)
  have HM5 : Hid (m5 = (Pl.lRecs x.Pieces).length) := hm5
  clear CA p0 p1 e0 e1 hS5 hm5 HS
  obtain ⟨A6, m6, c6, q0, q1⟩ := rHead_ocell (HS1.out.sl 2 rfl) (HS1.out.ndat (i := 2) rfl) HA.out.hd
  clear q0
  have ho := HA.out.p.mo
  obtain ⟨m, hm⟩ : ∃ m : Nat, a.Offset = m := ⟨a.Offset.toNat, by omega⟩
  have HMO := Lib.hid hm
  have hm60 : m ≤ 60 := by omega
  rw [hm] at q1
  clear ho hm
  by_cases hc : m < m5
  · have hc1 : ¬ ((m5 : Nat) : Int) ≤ (m : Nat) := by omega
    have f2 : (0 : Int) ≤ (m : Nat) := by omega
    have f3 : ((m : Nat) : Int).toNat = m := by omega
    have f4 : (m : Int) < (m5 : Nat) := by omega
    obtain ⟨y, hy, hsay, hrec, hrd⟩ := Pl.sayAt_of HA.out.p (m := m) (by have := HM5.out; omega)
    have HF : Hid (Pl.followS h k = (⟨h.Logs, h.Heads.set k (Pl.takeS a y).1, h.Kept⟩, true)) := by
      show _ = _
      unfold Pl.followS
      rw [Pl.headK_of HA.out.hd, Pl.logK_of HA.out.lg, HMO.out, Int.toNat_natCast, hsay, if_pos (by have := HM5.out; omega)]
    have HRD := Lib.hid hrd
    have HTI : Hid (TakeIn y h.Heads n k a) := by
      have hyo := HA.out.p.sayOk y (List.mem_of_getElem? hy)
      have h1 := Pl.sayOk_bounds hyo
      have h2 := Pl.sayOk_name hyo
      exact ⟨HA.out.hd, HA.out.p.head.hw, by rw [HMO.out]; omega, by have := HNN.out; have := HA.out.n3; omega, by unfold maxLen; omega, by unfold Mm.I64; omega, by unfold Mm.I64; omega⟩
    obtain ⟨s, bs, os, cs0, hs, hA5, -, hat, hcell⟩ := (HS1.out.rdSl 0 rfl).get hc
    subst hA5
    obtain ⟨rfl, -⟩ := hat
    have r0 := hcell 0 _ rfl
    rw [show os + m * Mm.str.size + 0 = os + m from by show os + m * 1 + 0 = _; omega] at r0
    obtain rfl : s = Pl.sayTxt y := by rw [hs] at hrec; injection hrec
    obtain ⟨s, hsx⟩ : ∃ s, Pl.sayTxt y = s := ⟨_, rfl⟩
    rw [hsx] at r0 HRD hs
    have hs20 : s.size ≤ 20 := Pl.lRecs_size (List.mem_of_getElem? hs)
    have CR := readSay_c s hs20 Bt W1 (HW0.out.on HS1.out.bel0)
    clear hy hsay hrec hrd hs hcell hsx
    go_wp2_with fail
    refine CR.mono ?_
    rintro e w2 ⟨z, ok, rfl, hb2, hzi, hz⟩
    rw [HRD.out] at hz
    obtain ⟨rfl, rfl⟩ : ok = true ∧ z = y := by
      cases ok with
      | true => injection (by simpa using hz : some y = some z) with hz; exact ⟨rfl, hz.symm⟩
      | false => simp at hz
    obtain ⟨W2, rfl⟩ : ∃ W : World, W = w2 := ⟨_, rfl⟩
    have HS2 := Lib.hid (HS1.out.step hb2)
    clear CR q1 r0 hb2 hz hzi HS1 HRD
    obtain ⟨gs, hgs⟩ : ∃ g, W2.heap.size = g := ⟨_, rfl⟩
    obtain ⟨W3, hW3⟩ : ∃ W, W2.alloc (.cells #[.string z.Name, .int .i64 z.At, .int .i64 z.Value] 55) = W := ⟨_, rfl⟩
    have HS3 := Lib.hid ((HS2.out.alloc' hgs 55 [.string z.Name, .int .i64 z.At, .int .i64 z.Value]).atW hW3)
    go_upto_region 6 with fail
    clear hW3 hgs HS2
    have s0 := HS3.out.cell (k := 0) 0 rfl rfl
    have s1 := HS3.out.cell (k := 1) 0 rfl rfl
    have s2 := HS3.out.cell (k := 2) 0 rfl rfl
    have CT := take_c z h.Heads gH n cH k _ a W3 (HS3.out.sl 3 rfl) (HS3.out.ndat (i := 3) rfl) HTI.out
    go_wp2_with fail
    refine CT.mono ?_
    rintro e w4 ⟨rfl, fp', hS4⟩
    have HS4 := Lib.hid (HS3.out.call 3 rfl hS4.left)
    clear CT hS4 s0 s1 s2 HS3
    go_wp2
    go_ret
    rw [HF.out]
    exact ⟨rfl, n, _, cL, fL, _, cH, fp', AK, cK, fK, HS4.out.tail.tail⟩
  · have hc1 : ((m5 : Nat) : Int) ≤ (m : Nat) := by omega
    have HF : Hid (Pl.followS h k = (h, false)) := by
      show _ = _
      unfold Pl.followS
      rw [Pl.headK_of HA.out.hd, Pl.logK_of HA.out.lg, HMO.out, if_neg (by have := HM5.out; omega)]
    go_wp2
    go_ret
    rw [HF.out]
    exact ⟨rfl, n, _, cL, fL, _, cH, fH, AK, cK, fK, HS1.out.tail⟩
end Go.Proofs.YtbhmdnjammnlnaaGreatDoor

namespace Go.Proofs.YtbhmdnjammnlnaaGreatDoor
open Go.RowKit
attribute [local go_sem] und_cell cha_cell World.cell?_alloc_some
namespace Pl
def folN (h : House) (k : Nat) : Nat → House
  | 0 => h
  | j + 1 => (followS (folN h k j) k).1
def manyN (h : House) (k : Nat) : Nat := ((lRecs (logK h k).Pieces).length : Int).toNat - (headK h k).Offset.toNat
def catchN (h : House) : Nat → House × Nat
  | 0 => (h, 0)
  | i + 1 => (folN (catchN h i).1 i (manyN (catchN h i).1 i), (catchN h i).2 + manyN (catchN h i).1 i)
theorem HouseOk.folN {h : House} (H : HouseOk h) (k : Nat) : ∀ j, HouseOk (folN h k j)
  | 0 => H
  | j + 1 => (HouseOk.folN H k j).follow k
theorem followS_len (h : House) (k : Nat) : (followS h k).1.Logs = h.Logs ∧ (followS h k).1.Kept = h.Kept := by
  unfold followS
  split <;> exact ⟨rfl, rfl⟩
theorem folN_len (h : House) (k : Nat) : ∀ j, (folN h k j).Logs = h.Logs ∧ (folN h k j).Kept = h.Kept
  | 0 => ⟨rfl, rfl⟩
  | j + 1 => by
    have h1 := followS_len (folN h k j) k
    have h2 := folN_len h k j
    exact ⟨h1.1.trans h2.1, h1.2.trans h2.2⟩
theorem HouseOk.catchN {h : House} (H : HouseOk h) : ∀ i, HouseOk (catchN h i).1
  | 0 => H
  | i + 1 => (HouseOk.catchN H i).folN i _
theorem catchN_len (h : House) : ∀ i, (catchN h i).1.Logs = h.Logs
  | 0 => rfl
  | i + 1 => by
    show (folN _ i _).Logs = _
    rw [(folN_len _ i _).1]; exact catchN_len h i
theorem folN_off {h : House} (H : HouseOk h) {k : Nat} (hk : k < h.Logs.length) : ∀ {j}, j ≤ manyN h k → (headK (folN h k j) k).Offset = (headK h k).Offset + j
  | 0, _ => by simp [folN]
  | j + 1, hj => by
    have ih := folN_off H hk (j := j) (by omega)
    have H2 := H.folN k j
    have hl := (folN_len h k j).1
    obtain ⟨g, a, b, l, h1, h2, h3, h4⟩ := H2.ex (i := k) (by rw [hl]; exact hk)
    obtain ⟨g', a', b', l', h1', h2', h3', h4'⟩ := H.ex (i := k) hk
    have hm := h4'.mo
    rw [headK_of h2] at ih
    rw [headK_of h2'] at ih ⊢
    have hg : logK h k = g := by rw [hl] at h1; exact logK_of h1
    have hjm : j + 1 ≤ manyN h k := hj
    unfold manyN at hjm
    rw [hg, headK_of h2'] at hjm
    have hc : (headK (folN h k j) k).Offset < (lRecs (logK (folN h k j) k).Pieces).length := by rw [headK_of h2, logK_of h1, ih]; omega
    show (headK (followS (folN h k j) k).1 k).Offset = _
    unfold followS
    rw [if_pos hc]
    have hs : ((folN h k j).Heads.set k (takeS (headK (folN h k j) k) (sayAt (logK (folN h k j) k) (headK (folN h k j) k).Offset.toNat)).1)[k]? = some (takeS (headK (folN h k j) k) (sayAt (logK (folN h k j) k) (headK (folN h k j) k).Offset.toNat)).1 := List.getElem?_set_self (List.getElem?_eq_some_iff.1 h2).1
    rw [headK_of (h := ⟨_, (folN h k j).Heads.set k _, _⟩) hs, takeS_off, headK_of h2, ih]
    omega
theorem fol_yes {h : House} (H : HouseOk h) {k : Nat} (hk : k < h.Logs.length) {j : Nat} (hj : j < manyN h k) : (followS (folN h k j) k).2 = true := by
  have h1 := folN_off H hk (j := j) (by omega)
  obtain ⟨g', a', b', l', h1', h2', h3', h4'⟩ := H.ex (i := k) hk
  have hm := h4'.mo
  have hl := (folN_len h k j).1
  have e : logK (folN h k j) k = logK h k := by unfold logK; rw [hl]
  unfold manyN at hj
  unfold followS
  rw [if_pos (by rw [h1, e]; rw [headK_of h2'] at hj ⊢; omega)]
theorem fol_no {h : House} (H : HouseOk h) {k : Nat} (hk : k < h.Logs.length) : followS (folN h k (manyN h k)) k = (folN h k (manyN h k), false) := by
  have h1 := folN_off H hk (j := manyN h k) (Nat.le_refl _)
  obtain ⟨g', a', b', l', h1', h2', h3', h4'⟩ := H.ex (i := k) hk
  have hm := h4'.mo
  have hl := (folN_len h k (manyN h k)).1
  have e : logK (folN h k (manyN h k)) k = logK h k := by unfold logK; rw [hl]
  have hle := (h4'.hdf.ok h4'.sayOk (by have := h4'.len; omega)).2.1
  have hr : (lRecs g'.Pieces).length = l'.length := by rw [h4'.says.1, List.length_map]
  have e1 := headK_of h2'
  have e2 := logK_of h1'
  have hM : manyN h k = ((lRecs (logK h k).Pieces).length : Int).toNat - (headK h k).Offset.toNat := rfl
  unfold followS
  rw [if_neg (by rw [h1, e, e1, e2]; rw [e1, e2] at hM; omega)]
theorem many_le {h : House} (H : HouseOk h) {k : Nat} (hk : k < h.Logs.length) : manyN h k ≤ 60 := by
  obtain ⟨g', a', b', l', h1', h2', h3', h4'⟩ := H.ex (i := k) hk
  have := h4'.log.sum
  unfold manyN
  rw [logK_of h1']; omega
theorem catchN_le {h : House} (H : HouseOk h) : ∀ i, i ≤ h.Logs.length → (catchN h i).2 ≤ 60 * i
  | 0, _ => Nat.le_refl _
  | i + 1, hi => by
    have h1 := catchN_le H i (by omega)
    have h2 := many_le (H.catchN i) (k := i) (by rw [catchN_len]; omega)
    show (catchN h i).2 + manyN _ i ≤ _
    omega
end Pl
theorem Pl.HouseOk.at_ {h : House} (H : Pl.HouseOk h) {k : Nat} (hk : k < h.Logs.length) : ∃ g a b l, HoAt h k g a b l := by
  obtain ⟨g, a, b, l, h1, h2, h3, h4⟩ := H.ex hk
  exact ⟨g, a, b, l, h1, h2, h3, h4, H.n3⟩
set_option maxRecDepth 100000 in
set_option maxHeartbeats 4000000 in
theorem catchUp_c (h : House) (gp Bt : Nat) (rest : List Mm.Thing) (H : Pl.HouseOk h) (w0 w : World) (ht : Tab Bt w0) (hs : HoSep w0 w h gp rest) :
    Calls Tryz.prog 81 #[.pointer (some ⟨gp, 0, none⟩)] w fun e w' => e = .returned (.int .i64 ((Pl.catchN h h.Logs.length).2 : Nat)) ∧ HoSep w0 w' (Pl.catchN h h.Logs.length).1 gp rest := by
  have HS := Lib.hid hs
  obtain ⟨n, AL, cL, fL, AH, cH, fH, AK, cK, fK, hS⟩ := hs
  have hnn : h.Logs.length = n := (hS.sl 0 rfl).nlen
  rw [hnn]
  have HNN := Lib.hid hnn
  have hn3 : n ≤ 3 := by have := H.n3; omega
  have p0 := hS.cell (k := 0) 3 rfl rfl
  have HK := Lib.hid H
  have HT := Lib.hid ht
  have HLE := Lib.hid (Pl.catchN_le H)
  clear hS H ht hnn
  go_enter Tryz.func81, Tryz.ntmps81
  go_upto_region 3 with fail
  clear p0
  go_loopg [3, 10] n (fun gg c_ i_ wr => ∃ (k : Nat), n - k ≤ gg ∧ k ≤ n ∧ i_ = .int .i64 (k : Nat) ∧ (∃ c : Nat, c_ = .int .i64 (c : Nat) ∧ Hid (c = (Pl.catchN h k).2)) ∧ Hid (HoSep w0 wr (Pl.catchN h k).1 gp rest))
  case atStart => exact ⟨0, by omega, by omega, rfl, ⟨0, rfl, rfl⟩, HS.out⟩
  case round =>
    clear HS
    obtain ⟨k, hgk, hk', rfl, ⟨c, rfl, HC⟩, HS⟩ := hrel
    obtain ⟨Wo, rfl⟩ : ∃ W : World, W = wr := ⟨_, rfl⟩
    by_cases hlt : k < n
    · have fc : (k : Int) < (n : Nat) := by omega
      obtain ⟨hx, hhx⟩ : ∃ x, (Pl.catchN h k).1 = x := ⟨_, rfl⟩
      have HX := Lib.hid hhx
      have HXO : Hid (Pl.HouseOk hx) := by show _; rw [← hhx]; exact HK.out.catchN k
      have HXL : Hid (k < hx.Logs.length) := by show _ < _; rw [← hhx, Pl.catchN_len, HNN.out]; exact hlt
      rw [hhx] at HS
      obtain ⟨mm, hmm⟩ : ∃ m, Pl.manyN hx k = m := ⟨_, rfl⟩
      have HM := Lib.hid hmm
      have hm60 : mm ≤ 60 := by rw [← hmm]; exact Pl.many_le HXO.out HXL.out
      have hc180 : c ≤ 180 := by have := HLE.out k (by rw [HNN.out]; omega); have := HC.out; omega
      clear hhx hmm
      go_upto_region 5 with fail
      go_loopg [3] mm (fun gi c_ wr => ∃ (j : Nat), mm - j ≤ gi ∧ j ≤ mm ∧ c_ = .int .i64 ((c + j : Nat) : Nat) ∧ Hid (HoSep w0 wr (Pl.folN hx k j) gp rest))
      case atStart => exact ⟨0, by omega, by omega, rfl, HS.out⟩
      case round =>
        clear HS
        obtain ⟨j, hgj, hj', rfl, HS⟩ := hrel
        obtain ⟨W, rfl⟩ : ∃ W : World, W = wr := ⟨_, rfl⟩
        obtain ⟨g, a, b, l, hat⟩ := (HXO.out.folN k j).at_ (k := k) (by rw [(Pl.folN_len hx k j).1]; exact HXL.out)
        have CF := follow_c (Pl.folN hx k j) k gp Bt rest g a b l hat w0 W HT.out HS.out
        clear hat
        by_cases hjm : j < mm
        · rw [Pl.fol_yes HXO.out HXL.out (j := j) (by rw [HM.out]; exact hjm)] at CF
          go_wp2_with fail
          refine CF.mono ?_
          rintro e w1 ⟨rfl, hS1⟩
          have HS1 : Hid (HoSep w0 w1 (Pl.folN hx k (j + 1)) gp rest) := hS1
          clear CF hS1 HS
          go_wp2
          go_roundg (mm - (j + 1))
          case measure => omega
          case rel => exact ⟨j + 1, Nat.le_refl _, by omega, by go_num, HS1.out⟩
        · obtain rfl : j = mm := by omega
          have e9 := Pl.fol_no HXO.out HXL.out
          rw [HM.out] at e9
          rw [e9] at CF
          clear e9
          go_wp2_with fail
          refine CF.mono ?_
          rintro e w1 ⟨rfl, hS1⟩
          have HS1 : Hid (HoSep w0 w1 (Pl.catchN h (k + 1)).1 gp rest) := by
            show HoSep w0 w1 (Pl.folN (Pl.catchN h k).1 k (Pl.manyN (Pl.catchN h k).1 k)) gp rest
            rw [HX.out, HM.out]; exact hS1
          have HC1 : Hid (c + j = (Pl.catchN h (k + 1)).2) := by
            show c + j = (Pl.catchN h k).2 + Pl.manyN (Pl.catchN h k).1 k
            rw [HX.out, HM.out, HC.out]
          clear CF hS1 HS
          go_wp2
          go_roundg (n - (k + 1))
          case measure => omega
          case rel => exact ⟨k + 1, Nat.le_refl _, by omega, by go_num, ⟨c + j, rfl, HC1.out⟩, HS1.out⟩
    · obtain rfl : k = n := by omega
      have fc : ¬ ((k : Nat) : Int) < (k : Nat) := by omega
      go_wp2
      go_ret
      exact ⟨by have e5 := HC.out; subst e5; rfl, HS.out⟩
end Go.Proofs.YtbhmdnjammnlnaaGreatDoor

