/-
  Joined texts, in build order: Jv, Jx, Jz, M0, He, Hs. Each part says what it proves; no conditions beyond those that a part names.
-/
import Derived.Test.YtbhmdnjammnlnaaGreatDoorZ01
import Derived.Test.YtbhmdnjammnlnaaGreatDoorZ02
import Derived.Test.YtbhmdnjammnlnaaGreatDoorZ06
import Derived.Lib.Hide
import Derived.Deep.DeepFit
set_option linter.unusedVariables false
set_option linter.unusedSimpArgs false
/-
  Contracts: whether a store is good, the reference's. Conditions: those named.
-/
namespace Go.Proofs.YtbhmdnjammnlnaaGreatDoor
open Go.RowKit
attribute [local go_sem] und_cell cha_cell World.cell?_alloc_some
theorem Pl.LogOkR.zero {g : Log} (h : Pl.LogOkR g) (hb : g.Begin = 0) : Pl.LogOk g ∧ Pl.from0 g.Pieces = 0 := by
  refine ⟨h.1, ?_⟩
  have h1 := h.1.bg.1
  have h2 := h.1.from0.1
  rw [hb] at h1
  omega
theorem Pl.LogOkR.of {g : Log} (h : Pl.LogOk g) (hf : Pl.from0 g.Pieces = 0) (hb : g.Begin = 0) : Pl.LogOkR g :=
  ⟨h, fun p hp => by rw [hb]; have := Pl.from0_get hp; omega⟩
def gFoldH (x : Head) : Mm.Rel := fun _ _ v ds => ∃ A n c f, v = .agg #[.slice A n c, .int .i64 x.Offset] ∧ ds = [Mm.tow rHead x [.slice A n c, .int .i64 x.Offset] f]
theorem gFoldH_in {x : Head} {vals : List Value} {tk : List Mm.Thing} : ∃ v ds, gFoldH x vals tk v ds := ⟨_, _, none, 0, 0, [], rfl, rfl⟩
set_option maxRecDepth 100000 in
set_option maxHeartbeats 8000000 in
theorem goodHouse_c (h : House) (cs : List Value) (w : World) (B : Nat) (hh : rHouse.at_ w B h cs) (hB : B ≤ w.heap.size) (hsz : ∀ g, g ∈ h.Logs → ∀ p, p ∈ g.Pieces → p.Bytes.size ≤ 2000000) :
    Calls Tryz.prog 23 #[.agg cs.toArray] w (BoolAns (Pl.HouseOk h) w) := by
  obtain ⟨A0, n0, c0, A1, n1, c1, A2, n2, c2, rfl, r0, r1, r2⟩ := rHouse_at hh
  have R0 := Lib.hid r0
  have R1 := Lib.hid r1
  have R2 := Lib.hid r2
  have HSZ := Lib.hid hsz
  have HN0 : Hid (h.Logs.length = n0) := r0.1
  have HN1 : Hid (h.Heads.length = n1) := r1.1
  have HN2 : Hid (h.Kept.length = n2) := r2.1
  have HBW := Lib.hid hB
  have hnm0 : n0 ≤ maxLen := Nat.le_trans r0.2.1 r0.2.2.1
  have hnm1 : n1 ≤ maxLen := Nat.le_trans r1.2.1 r1.2.2.1
  have hnm2 : n2 ≤ maxLen := Nat.le_trans r2.2.1 r2.2.2.1
  unfold maxLen at hnm0 hnm1 hnm2
  clear hh r0 r1 r2 hB hsz
  obtain ⟨ga, hga⟩ : ∃ g, w.heap.size = g := ⟨_, rfl⟩
  obtain ⟨W0, hW0⟩ : ∃ W, w.alloc (.cells #[.slice A0 n0 c0, .slice A1 n1 c1, .slice A2 n2 c2] 27) = W := ⟨_, rfl⟩
  have KS0 := Lib.hid (((Mm.SepF.start w).alloc' hga 27 [.slice A0 n0 c0, .slice A1 n1 c1, .slice A2 n2 c2]).atW hW0)
  have d0 := KS0.out.cell (k := 0) 0 rfl rfl
  have d1 := KS0.out.cell (k := 1) 0 rfl rfl
  have d2 := KS0.out.cell (k := 2) 0 rfl rfl
  have HBL := Lib.hid KS0.out.bel0
  go_enter Tryz.func23, Tryz.ntmps23
  by_cases hn : 1 ≤ n0 ∧ n0 ≤ 3
  · obtain ⟨hn1, hn3⟩ := hn
    have hin : Pl.isIn (n0 : Int) 1 3 = true := by unfold Pl.isIn; simp; omega
    by_cases h1 : n1 = n0
    · by_cases h2 : n2 = n0
      · subst h1
        subst h2
        have hz : ((n2 : Int) != (n2 : Int)) = false := by simp
        go_upto_region 5 with (go_at_call 68; (with_reducible refine (l1In_isJ hin _).mono ?_); rintro e w' ⟨rfl, rfl⟩)
        clear d0 d1 d2 hin HBL hW0 hga hnm0 hnm1 hnm2
        obtain ⟨n0, rfl⟩ : ∃ n, n = n2 := ⟨_, rfl⟩
        go_loopg [31] n0 (fun gg i_ wr => ∃ (k : Nat), n0 - k ≤ gg ∧ k ≤ n0 ∧ i_ = .int .i64 (k : Nat) ∧ Hid (∀ i g a b, i < k → h.Logs[i]? = some g → h.Heads[i]? = some a → h.Kept[i]? = some b → ∃ l, Pl.PartOk n0 i g a b l) ∧ Hid (Mm.SepF [] w wr [Mm.tblk ga 27 [.slice A0 n0 c0, .slice A1 n0 c1, .slice A2 n0 c2]]))
        case atStart => exact ⟨0, by omega, by omega, rfl, (fun i g a b hi => absurd hi (by omega)), KS0.out⟩
        case round =>
          clear KS0
          obtain ⟨k, hgk, hk', rfl, HU, HS⟩ := hrel
          obtain ⟨W, rfl⟩ : ∃ W : World, W = wr := ⟨_, rfl⟩
          by_cases hlt : k < n0
          · have fc : (k : Int) < (n0 : Nat) := by omega
            have hbw := Lib.hid (fun b (hb : b < B) => HS.out.bel0.block b (by have := HBW.out; omega))
            obtain ⟨x, b0, o0, AP, mP, dP, hx, rfl, hb0, hrp, hbg, e0, e1⟩ := rLog_get (R0.out.keep (w' := W) hbw.out) hlt
            have HX := Lib.hid hx
            have HRP := Lib.hid hrp
            obtain ⟨bg, hbe⟩ : ∃ b : Int, x.Begin = b := ⟨_, rfl⟩
            rw [hbe] at e1 hbg
            have HBE := Lib.hid hbe
            have HPS := Lib.hid (HSZ.out x (List.mem_of_getElem? hx))
            clear hx hrp hbe
            obtain ⟨gl, hgl⟩ : ∃ g, W.heap.size = g := ⟨_, rfl⟩
            obtain ⟨W2, hW2⟩ : ∃ V, W.alloc (.cells #[.slice AP mP dP, .int .i64 bg] 80) = V := ⟨_, rfl⟩
            have KS2 := Lib.hid ((HS.out.alloc' hgl 80 [.slice AP mP dP, .int .i64 bg]).atW hW2)
            have hbw2 := Lib.hid (fun b (hb : b < B) => KS2.out.bel0.block b (by have := HBW.out; omega))
            have hBW2 : B ≤ W2.heap.size := by have := HBW.out; have := KS2.out.bel0.size; omega
            have HRP2 : Hid (Mm.SlAt rPiece W2 B x.Pieces AP mP dP) := HRP.out.keep fun b hb => (hbw2.out b hb).trans (hbw.out b hb).symm
            have CL := goodLog_c x [.slice AP mP dP, .int .i64 bg] W2 B (by rw [← HBE.out]; exact rLog_at_mk HRP2.out (by rw [HBE.out]; exact hbg)) hBW2 HPS.out
            go_upto_region 7 with fail
            clear hW2 hgl e0 e1 HS
            have q0 := KS2.out.cell (k := 0) 0 rfl rfl
            have q1 := KS2.out.cell (k := 1) 0 rfl rfl
            go_wp2_with fail
            refine CL.mono ?_
            rintro e w3 ⟨lok, rfl, hlok, hb3⟩
            obtain ⟨W3, rfl⟩ : ∃ W : World, W = w3 := ⟨_, rfl⟩
            have KS3 := Lib.hid (KS2.out.step hb3)
            have HLOK := Lib.hid hlok
            clear CL q0 q1 hb3 hlok KS2
            have q0 := KS3.out.cell (k := 0) 0 rfl rfl
            have q1 := KS3.out.cell (k := 1) 0 rfl rfl
            have d1 := KS3.out.cell (k := 1) 1 rfl rfl
            have d2 := KS3.out.cell (k := 2) 1 rfl rfl
            have HBL := Lib.hid KS3.out.bel0
            have hbw3 := Lib.hid (fun b (hb : b < B) => KS3.out.bel0.block b (by have := HBW.out; omega))
            have hBW3 : B ≤ W3.heap.size := by have := HBW.out; have := KS3.out.bel0.size; omega
            obtain ⟨hd, b1, o1, AH, mH, dH, hxh, hA1, -, hrh, hoi, h0, h1⟩ := rHead_get (R1.out.keep (w' := W3) hbw3.out) hlt
            subst hA1
            obtain ⟨kp, b2, o2, AK, mK, dK, hxk, hA2, -, hrk, hoj, k0, k1⟩ := rHead_get (R2.out.keep (w' := W3) hbw3.out) hlt
            subst hA2
            have HXH := Lib.hid hxh
            have HXK := Lib.hid hxk
            have HH3 := Lib.hid (rHead_at_mk (hrh.more hBW3) hoi)
            have HK3 := Lib.hid (rHead_at_mk (hrk.more hBW3) hoj)
            obtain ⟨oh, hoh⟩ : ∃ o : Int, hd.Offset = o := ⟨_, rfl⟩
            obtain ⟨ok, hok⟩ : ∃ o : Int, kp.Offset = o := ⟨_, rfl⟩
            rw [hoh] at h1 HH3
            rw [hok] at k1 HK3
            have HOH := Lib.hid hoh
            have HOK2 := Lib.hid hok
            clear hxh hxk hrh hrk hoi hoj hoh hok
            cases lok with
            | false =>
              have HNL : Hid (¬ Pl.HouseOk h) := fun hk => by
                obtain ⟨l, hl⟩ := hk.part k x hd kp HX.out HXH.out HXK.out
                (exact absurd (HLOK.out.2 (Pl.LogOkR.of hl.log hl.fr hl.bg)) (by simp))
              go_wp2
              go_ret
              exact BoolAns.no HNL.out HBL.out
            | true =>
              by_cases hbg0 : bg = 0
              · have z2 : (bg != 0) = false := by simp [hbg0]
                have HBG : Hid (x.Begin = 0) := HBE.out.trans hbg0
                have HLG := Lib.hid ((HLOK.out.1 (by simp)).zero HBG.out)
                clear hbg0
                have CH1 := goodHead_c hd [.slice AH mH dH, .int .i64 oh] W3 W3.heap.size HH3.out (Nat.le_refl _)
                clear HBL
                go_wp2_with fail
                refine CH1.mono ?_
                rintro e w5 ⟨hok1, rfl, hh1, hb5⟩
                obtain ⟨W5, rfl⟩ : ∃ W : World, W = w5 := ⟨_, rfl⟩
                have KS5 := Lib.hid (KS3.out.step hb5)
                replace h0 := below_some hb5 h0
                replace h1 := below_some hb5 h1
                replace k0 := below_some hb5 k0
                replace k1 := below_some hb5 k1
                have HB5 := Lib.hid hb5
                have HHD1 := Lib.hid hh1
                clear CH1 q0 q1 d1 d2 hb5 hh1 KS3
                have q0 := KS5.out.cell (k := 0) 0 rfl rfl
                have q1 := KS5.out.cell (k := 1) 0 rfl rfl
                have d1 := KS5.out.cell (k := 1) 1 rfl rfl
                have d2 := KS5.out.cell (k := 2) 1 rfl rfl
                have HBL := Lib.hid KS5.out.bel0
                cases hok1 with
                | false =>
                  have HNL : Hid (¬ Pl.HouseOk h) := fun hk => by
                    obtain ⟨l, hl⟩ := hk.part k x hd kp HX.out HXH.out HXK.out
                    (exact absurd (HHD1.out.2 (hl.hdf.ok hl.sayOk (by have := hl.len; omega)).1) (by simp))
                  go_wp2
                  go_ret
                  exact BoolAns.no HNL.out HBL.out
                | true =>
                  have CH2 := goodHead_c kp [.slice AK mK dK, .int .i64 ok] W5 W3.heap.size (rHead.keep HK3.out fun b hb => HB5.out.block b hb) HB5.out.size
                  clear HBL
                  go_wp2_with fail
                  refine CH2.mono ?_
                  rintro e w6 ⟨hok2, rfl, hh2, hb6⟩
                  obtain ⟨W6, rfl⟩ : ∃ W : World, W = w6 := ⟨_, rfl⟩
                  have KS6 := Lib.hid (KS5.out.step hb6)
                  replace h0 := below_some hb6 h0
                  replace h1 := below_some hb6 h1
                  replace k0 := below_some hb6 k0
                  replace k1 := below_some hb6 k1
                  have HB6 : Hid (Below W3.heap.size W3 W6) := HB5.out.trans (below_le hb6 HB5.out.size)
                  have HHD2 := Lib.hid hh2
                  clear CH2 q0 q1 d1 d2 hb6 hh2 KS5
                  have q0 := KS6.out.cell (k := 0) 0 rfl rfl
                  have q1 := KS6.out.cell (k := 1) 0 rfl rfl
                  have HBL := Lib.hid KS6.out.bel0
                  cases hok2 with
                  | false =>
                    have HNL : Hid (¬ Pl.HouseOk h) := fun hk => by
                      obtain ⟨l, hl⟩ := hk.part k x hd kp HX.out HXH.out HXK.out
                      (exact absurd (HHD2.out.2 (hl.kpf.ok hl.sayOk (by have := hl.len; omega)).1) (by simp))
                    go_wp2
                    go_ret
                    exact BoolAns.no HNL.out HBL.out
                  | true =>
                    have HKH : Hid (Pl.HeadOk hd) := HHD1.out.1 (by simp)
                    have HKK : Hid (Pl.HeadOk kp) := HHD2.out.1 (by simp)
                    have HAT : Hid (rLog.at_ W6 B x [.slice AP mP dP, .int .i64 bg]) := by rw [← HBE.out]; exact rLog_at_mk (HRP.out.keep (w' := W6) fun b hb => (HBL.out.block b (by have := HBW.out; omega)).trans (hbw.out b hb).symm) (by rw [HBE.out]; exact hbg)
                    have CS := l17Says_c x (k : Int) (n0 : Int) [.slice AP mP dP, .int .i64 bg] W6 B HAT.out (by have := HBL.out.size; have := HBW.out; omega) HLG.out.1 HBG.out ⟨by omega, by omega⟩
                    clear HBL
                    go_wp2_with fail
                    refine CS.mono ?_
                    rintro e w4 hans
                    clear CS q0 q1
                    cases hso : Pl.saysOf (n0 : Int) (k : Int) (Pl.lRecs x.Pieces) with
                    | none =>
                      rw [hso] at hans
                      obtain ⟨rfl, hb4⟩ := hans
                      have HSO := Lib.hid hso
                      have HNL : Hid (¬ Pl.HouseOk h) := fun hk => by
                        obtain ⟨l, hl⟩ := hk.part k x hd kp HX.out HXH.out HXK.out
                        (have h9 := hl.txt; rw [HN0.out, HSO.out] at h9; cases h9)
                      obtain ⟨W4, rfl⟩ : ∃ W : World, W = w4 := ⟨_, rfl⟩
                      have KS4 := Lib.hid (KS6.out.step hb4)
                      clear hb4 hso KS6
                      go_upto_region 10 with fail
                      refine wp_region_und (by kernel_rfl) (by kernel_rfl) ?_
                      repeat (go_big_quiet_step ((first | fail)))
                      refine wpQuiet_nil ?_
                      intro X hX
                      have HBL := Lib.hid (below_step KS4.out.bel0 hX)
                      clear hX
                      go_wp2
                      go_ret
                      exact BoolAns.no HNL.out HBL.out
                    | some r =>
                      rw [hso] at hans
                      obtain ⟨A9, n9, c9, f9, rfl, hn9, hs9⟩ := hans
                      obtain ⟨W4, rfl⟩ : ∃ W : World, W = w4 := ⟨_, rfl⟩
                      have KS4 := Lib.hid (KS6.out.join hs9)
                      have hb4 := hs9.bel0
                      replace h0 := below_some hb4 h0
                      replace h1 := below_some hb4 h1
                      replace k0 := below_some hb4 k0
                      replace k1 := below_some hb4 k1
                      have HSA := Lib.hid hso
                      have hsi := Pl.saysOf_iff.1 hso
                      have HSY : Hid (∀ y, y ∈ r → Pl.sayOk y = true) := fun y hy => (hsi.2 y hy).1
                      have hr60 : n9 ≤ 60 := by have h1 := HLG.out.1.sum; rw [hsi.1, List.length_map] at h1; omega
                      have HN9 : Hid (n9 = r.length) := hn9
                      have HB34 : Hid (Below W3.heap.size W3 W4) := HB6.out.trans (below_le hb4 HB6.out.size)
                      clear hs9 hso hsi hn9 hb4 KS6
                      have hofh := HKH.out.off
                      have hofk := HKK.out.off
                      rw [HOH.out] at hofh
                      rw [HOK2.out] at hofk
                      obtain ⟨mh, rfl⟩ : ∃ m : Nat, oh = (m : Int) := ⟨oh.toNat, by omega⟩
                      obtain ⟨mk, rfl⟩ : ∃ m : Nat, ok = (m : Int) := ⟨ok.toNat, by omega⟩
                      go_upto_region 10 with fail
                      have d1 := KS4.out.cell (k := 1) 2 rfl rfl
                      have d2 := KS4.out.cell (k := 2) 2 rfl rfl
                      by_cases hmh9 : mh ≤ n9
                      · have l1 : decide ((n9 : Int) < (mh : Nat)) = false := decide_eq_false (by omega)
                        have l1n : decide (n9 < mh) = false := decide_eq_false (by omega)
                        by_cases hmk : mk ≤ mh
                        · have l2 : decide ((mh : Int) < (mk : Nat)) = false := decide_eq_false (by omega)
                          have l2n : decide (mh < mk) = false := decide_eq_false (by omega)
                          refine wp_region_und (by kernel_rfl) (by kernel_rfl) ?_
                          repeat (go_big_quiet_step ((first | fail)))
                          refine wpQuiet_nil ?_
                          intro X hX
                          obtain ⟨V4, rfl⟩ : ∃ W : World, W = X := ⟨_, rfl⟩
                          have KS7 := Lib.hid (KS4.out.step hX)
                          replace h0 := below_some hX h0
                          replace h1 := below_some hX h1
                          replace k0 := below_some hX k0
                          replace k1 := below_some hX k1
                          have HB7 : Hid (Below W3.heap.size W3 V4) := HB34.out.trans (below_le hX HB34.out.size)
                          have HSR := Lib.hid (KS7.out.rdSl 0 rfl)
                          have hsz7 := HB7.out.size
                          have HHD : Hid (rHead.at_ V4 V4.heap.size hd [.slice AH mH dH, .int .i64 hd.Offset]) := by
                            have hA := rHead.keep HH3.out fun b hb => HB7.out.block b hb
                            obtain ⟨A8, n8, c8, hcs8, g8, i8⟩ := rHead_at hA
                            simp only [List.cons.injEq, Value.slice.injEq, and_true] at hcs8
                            obtain ⟨⟨rfl, rfl, rfl⟩, -⟩ := hcs8
                            exact rHead_at_mk (g8.more hsz7) i8
                          have HKP : Hid (rHead.at_ V4 V4.heap.size kp [.slice AK mK dK, .int .i64 kp.Offset]) := by
                            have hA := rHead.keep HK3.out fun b hb => HB7.out.block b hb
                            obtain ⟨A8, n8, c8, hcs8, g8, i8⟩ := rHead_at hA
                            simp only [List.cons.injEq, Value.slice.injEq, and_true] at hcs8
                            obtain ⟨⟨rfl, rfl, rfl⟩, -⟩ := hcs8
                            exact rHead_at_mk (g8.more hsz7) i8
                          clear d1 d2 hX KS4 l1 l1n l2 l2n
                          have d1 := KS7.out.cell (k := 1) 2 rfl rfl
                          have d2 := KS7.out.cell (k := 2) 2 rfl rfl
                          have hmk9 : mk ≤ n9 := by omega
                          obtain ⟨FH, hFH⟩ : ∃ F, Pl.foldS ⟨[], 0⟩ (r.take mh) = F := ⟨_, rfl⟩
                          obtain ⟨FG, hFG⟩ : ∃ F, Pl.foldS ⟨[], 0⟩ (r.take mk) = F := ⟨_, rfl⟩
                          have HFK : Hid (Pl.HeadOk FH) := by rw [← hFH]; exact Pl.fold_ok HSY.out (by have := HN9.out; omega) mh
                          have HGK : Hid (Pl.HeadOk FG) := by rw [← hFG]; exact Pl.fold_ok HSY.out (by have := HN9.out; omega) mk
                          have HFO : Hid (FH.Offset = (mh : Int)) := by rw [← hFH]; exact Pl.fold_off0 r mh (by have := HN9.out; omega)
                          have HGO : Hid (FG.Offset = (mk : Int)) := by rw [← hFG]; exact Pl.fold_off0 r mk (by have := HN9.out; omega)
                          have HFH := Lib.hid hFH
                          have HFG := Lib.hid hFG
                          obtain ⟨sb1, HQ1⟩ := exists_bool (hd = FH)
                          obtain ⟨sb2, HQ2⟩ := exists_bool (kp = FG)
                          have HSB1 := Lib.hid HQ1
                          have HSB2 := Lib.hid HQ2
                          have hm0 : (0 : Int) ≤ (mh : Nat) := by omega
                          have hmt : ((mh : Nat) : Int).toNat = mh := by omega
                          have hk00 : (0 : Int) ≤ (mk : Nat) := by omega
                          have hkt : ((mk : Nat) : Int).toNat = mk := by omega
                          have hnc : n9 ≤ c9 := HSR.out.2.1
                          have hmc : mh ≤ c9 := by omega
                          have hkc : mk ≤ c9 := by omega
                          have hcm : c9 ≤ maxLen := HSR.out.2.2.1
                          have HFHD : Hid (Pl.FoldOf hd r ↔ hd = FH) := ⟨fun hf => by
                              have h3 := (hf.ok HSY.out (by have := HN9.out; omega)).2.2
                              rw [HOH.out] at h3
                              exact h3.symm.trans HFH.out, fun e => ⟨mh, by have := HN9.out; omega, by rw [HFH.out]; exact e⟩⟩
                          have HFKP : Hid (Pl.FoldOf kp r ↔ kp = FG) := ⟨fun hf => by
                              have h3 := (hf.ok HSY.out (by have := HN9.out; omega)).2.2
                              rw [HOK2.out] at h3
                              exact h3.symm.trans HFG.out, fun e => ⟨mk, by have := HN9.out; omega, by rw [HFG.out]; exact e⟩⟩
                          clear hFH hFG HQ1 HQ2
                          go_upto_region 12 with fail
                          cases sb1 with
                          | false =>
                            refine Mm.wp_region_give_all (fun i => match i with | 13 => some (gFoldH FH) | 14 => some (Mm.gVal (.bool false)) | 30 => none | 31 => none | _ => none) (fun i => match i with | 14 => [13] | 31 => [30] | _ => []) (fun _ => []) (F := []) (D := fun w' => ∃ z : Und V4, w' = und V4 z) (fun X us h => Mm.sep_und h) (by kernel_rfl) (by kernel_rfl) (by kernel_rfl) (Mm.SepF.startDrew _) ?_
                            repeat (refine Mm.give_det (by rfl) (by rfl) (by rfl) (fun K hK => ?_); go_big_quiet_op; refine hK _ ?_; clear hK K)
                            refine Mm.give_op0 110 (by rfl) rfl (by rfl) (by rfl) (by rfl) (by rfl) gFoldH_in (fun others X hX => ?_) ?_
                            · go_wp2_with (go_at_call 73; refine (l17Fold_c (r.take mh) A9 mh c9 X V4.heap.size ((HSR.out.keep fun b hb => hX.bel0.block b hb).take hmh9) hX.chg.size (by omega)).mono ?_; rintro e w5 ⟨A5, n5, c5, f5, rfl, hs5⟩)
                              rw [HFH.out] at hs5 ⊢
                              exact ⟨rfl, rfl, _, ⟨A5, n5, c5, f5, rfl, rfl⟩, (hX.join hs5).toOw (R := rHead) (x := FH) (cs := [.slice A5 n5 c5, .int .i64 FH.Offset]) (fun W hw => rHead_own_mk hw (by rw [HFO.out]; unfold Mm.I64; omega))⟩
                            rintro v ds ⟨A5, n5, c5, f5, rfl, rfl⟩
                            simp only [Act.put, List.setIfInBounds_toArray, List.set_cons_succ, List.set_cons_zero]
                            repeat (refine Mm.give_det (by rfl) (by rfl) (by rfl) (fun K hK => ?_); go_big_quiet_op; refine hK _ ?_; clear hK K)
                            refine Mm.give_op1 111 13 (by rfl) rfl (by rfl) (by rfl) (by rfl) rfl (by rfl) _ rfl Mm.gVal_in (fun others X hX => ?_) ?_
                            · have hA := (rHead.keep HHD.out fun b hb => hX.bel0.block b hb)
                              obtain ⟨A8, n8, c8, hcs8, g8, i8⟩ := rHead_at hA
                              have hA' : rHead.at_ X X.heap.size hd [.slice AH mH dH, .int .i64 hd.Offset] := by
                                rw [hcs8]; exact rHead_at_mk (g8.more hX.chg.size) i8
                              have hB' : rHead.at_ X X.heap.size FH [.slice A5 n5 c5, .int .i64 FH.Offset] := hX.rdHead 0 rfl
                              have CSM := BoolAns.fix HSB1.out (l17Same_c hd FH [.slice AH mH dH, .int .i64 hd.Offset] [.slice A5 n5 c5, .int .i64 FH.Offset] X X.heap.size hA' hB' (Nat.le_refl _) HKH.out HFK.out)
                              rw [HOH.out] at CSM
                              change Calls Tryz.prog 72 #[.agg #[.slice AH mH dH, .int .i64 ((mh : Nat) : Int)], .agg #[.slice A5 n5 c5, .int .i64 FH.Offset]] X _ at CSM
                              go_wp2_with (go_at_call 72; refine CSM.mono ?_; rintro e w6 ⟨rfl, hb6⟩)
                              exact Mm.gvq_val hX.tail hb6 rfl rfl
                            rintro v ds ⟨rfl, rfl⟩
                            simp only [Act.put, List.setIfInBounds_toArray, List.set_cons_succ, List.set_cons_zero]
                            repeat (refine Mm.give_det (by rfl) (by rfl) (by rfl) (fun K hK => ?_); go_big_quiet_op; refine hK _ ?_; clear hK K)
                            repeat (refine Mm.give_skip (by rfl) ?_; simp only [Act.put, List.setIfInBounds_toArray, List.set_cons_succ, List.set_cons_zero])
                            repeat (refine Mm.give_det (by rfl) (by rfl) (by rfl) (fun K hK => ?_); go_big_quiet_op; refine hK _ ?_; clear hK K)
                            refine Mm.give_nil ?_
                            rintro X hX
                            have HBL := Lib.hid (below_step KS7.out.bel0 hX.bel0)
                            clear hX
                            have HNL : Hid (¬ Pl.HouseOk h) := fun hk => by
                              obtain ⟨l, hl⟩ := hk.part k x hd kp HX.out HXH.out HXK.out
                              (have e1 := hl.txt; rw [HN0.out] at e1; have e2 := Option.some.inj (HSA.out.symm.trans e1); have e3 := hl.hdf; rw [← e2] at e3; exact absurd (HSB1.out.2 (HFHD.out.1 e3)) (by simp))
                            go_wp2
                            go_ret
                            exact BoolAns.no HNL.out HBL.out
                          | true =>
                            refine Mm.wp_region_give_all (fun i => match i with | 13 => some (gFoldH FH) | 14 => some (Mm.gVal (.bool true)) | 30 => (some (gFoldH FG)) | 31 => (some (Mm.gVal (.bool sb2))) | _ => none) (fun i => match i with | 14 => [13] | 31 => [30] | _ => []) (fun _ => []) (F := []) (D := fun w' => ∃ z : Und V4, w' = und V4 z) (fun X us h => Mm.sep_und h) (by kernel_rfl) (by kernel_rfl) (by kernel_rfl) (Mm.SepF.startDrew _) ?_
                            repeat (refine Mm.give_det (by rfl) (by rfl) (by rfl) (fun K hK => ?_); go_big_quiet_op; refine hK _ ?_; clear hK K)
                            refine Mm.give_op0 110 (by rfl) rfl (by rfl) (by rfl) (by rfl) (by rfl) gFoldH_in (fun others X hX => ?_) ?_
                            · go_wp2_with (go_at_call 73; refine (l17Fold_c (r.take mh) A9 mh c9 X V4.heap.size ((HSR.out.keep fun b hb => hX.bel0.block b hb).take hmh9) hX.chg.size (by omega)).mono ?_; rintro e w5 ⟨A5, n5, c5, f5, rfl, hs5⟩)
                              rw [HFH.out] at hs5 ⊢
                              exact ⟨rfl, rfl, _, ⟨A5, n5, c5, f5, rfl, rfl⟩, (hX.join hs5).toOw (R := rHead) (x := FH) (cs := [.slice A5 n5 c5, .int .i64 FH.Offset]) (fun W hw => rHead_own_mk hw (by rw [HFO.out]; unfold Mm.I64; omega))⟩
                            rintro v ds ⟨A5, n5, c5, f5, rfl, rfl⟩
                            simp only [Act.put, List.setIfInBounds_toArray, List.set_cons_succ, List.set_cons_zero]
                            repeat (refine Mm.give_det (by rfl) (by rfl) (by rfl) (fun K hK => ?_); go_big_quiet_op; refine hK _ ?_; clear hK K)
                            refine Mm.give_op1 111 13 (by rfl) rfl (by rfl) (by rfl) (by rfl) rfl (by rfl) _ rfl Mm.gVal_in (fun others X hX => ?_) ?_
                            · have hA := (rHead.keep HHD.out fun b hb => hX.bel0.block b hb)
                              obtain ⟨A8, n8, c8, hcs8, g8, i8⟩ := rHead_at hA
                              have hA' : rHead.at_ X X.heap.size hd [.slice AH mH dH, .int .i64 hd.Offset] := by
                                rw [hcs8]; exact rHead_at_mk (g8.more hX.chg.size) i8
                              have hB' : rHead.at_ X X.heap.size FH [.slice A5 n5 c5, .int .i64 FH.Offset] := hX.rdHead 0 rfl
                              have CSM := BoolAns.fix HSB1.out (l17Same_c hd FH [.slice AH mH dH, .int .i64 hd.Offset] [.slice A5 n5 c5, .int .i64 FH.Offset] X X.heap.size hA' hB' (Nat.le_refl _) HKH.out HFK.out)
                              rw [HOH.out] at CSM
                              change Calls Tryz.prog 72 #[.agg #[.slice AH mH dH, .int .i64 ((mh : Nat) : Int)], .agg #[.slice A5 n5 c5, .int .i64 FH.Offset]] X _ at CSM
                              go_wp2_with (go_at_call 72; refine CSM.mono ?_; rintro e w6 ⟨rfl, hb6⟩)
                              exact Mm.gvq_val hX.tail hb6 rfl rfl
                            rintro v ds ⟨rfl, rfl⟩
                            simp only [Act.put, List.setIfInBounds_toArray, List.set_cons_succ, List.set_cons_zero]
                            repeat (refine Mm.give_det (by rfl) (by rfl) (by rfl) (fun K hK => ?_); go_big_quiet_op; refine hK _ ?_; clear hK K)
                            refine Mm.give_op0 127 (by rfl) rfl (by rfl) (by rfl) (by rfl) (by rfl) gFoldH_in (fun others X hX => ?_) ?_
                            · go_wp2_with (go_at_call 73; refine (l17Fold_c (r.take mk) A9 mk c9 X V4.heap.size ((HSR.out.keep fun b hb => hX.bel0.block b hb).take hmk9) hX.chg.size (by omega)).mono ?_; rintro e w5 ⟨A5, n5, c5, f5, rfl, hs5⟩)
                              rw [HFG.out] at hs5 ⊢
                              exact ⟨rfl, rfl, _, ⟨A5, n5, c5, f5, rfl, rfl⟩, (hX.join hs5).toOw (R := rHead) (x := FG) (cs := [.slice A5 n5 c5, .int .i64 FG.Offset]) (fun W hw => rHead_own_mk hw (by rw [HGO.out]; unfold Mm.I64; omega))⟩
                            rintro v ds ⟨A6, n6, c6, f6, rfl, rfl⟩
                            simp only [Act.put, List.setIfInBounds_toArray, List.set_cons_succ, List.set_cons_zero]
                            repeat (refine Mm.give_det (by rfl) (by rfl) (by rfl) (fun K hK => ?_); go_big_quiet_op; refine hK _ ?_; clear hK K)
                            refine Mm.give_op1 128 30 (by rfl) rfl (by rfl) (by rfl) (by rfl) rfl (by rfl) _ rfl Mm.gVal_in (fun others X hX => ?_) ?_
                            · have hA := (rHead.keep HKP.out fun b hb => hX.bel0.block b hb)
                              obtain ⟨A8, n8, c8, hcs8, g8, i8⟩ := rHead_at hA
                              have hA' : rHead.at_ X X.heap.size kp [.slice AK mK dK, .int .i64 kp.Offset] := by
                                rw [hcs8]; exact rHead_at_mk (g8.more hX.chg.size) i8
                              have hB' : rHead.at_ X X.heap.size FG [.slice A6 n6 c6, .int .i64 FG.Offset] := hX.rdHead 0 rfl
                              have CSM := BoolAns.fix HSB2.out (l17Same_c kp FG [.slice AK mK dK, .int .i64 kp.Offset] [.slice A6 n6 c6, .int .i64 FG.Offset] X X.heap.size hA' hB' (Nat.le_refl _) HKK.out HGK.out)
                              rw [HOK2.out] at CSM
                              change Calls Tryz.prog 72 #[.agg #[.slice AK mK dK, .int .i64 ((mk : Nat) : Int)], .agg #[.slice A6 n6 c6, .int .i64 FG.Offset]] X _ at CSM
                              go_wp2_with (go_at_call 72; refine CSM.mono ?_; rintro e w6 ⟨rfl, hb6⟩)
                              exact Mm.gvq_val hX.tail hb6 rfl rfl
                            rintro v ds ⟨rfl, rfl⟩
                            simp only [Act.put, List.setIfInBounds_toArray, List.set_cons_succ, List.set_cons_zero]
                            repeat (refine Mm.give_det (by rfl) (by rfl) (by rfl) (fun K hK => ?_); go_big_quiet_op; refine hK _ ?_; clear hK K)
                            refine Mm.give_nil ?_
                            rintro X hX
                            have KS8 := Lib.hid ((KS7.out.step hX.bel0).sel [2] (by decide) rfl)
                            clear hX
                            cases sb2 with
                            | false =>
                              have HBL := Lib.hid KS8.out.bel0
                              have HNL : Hid (¬ Pl.HouseOk h) := fun hk => by
                                obtain ⟨l, hl⟩ := hk.part k x hd kp HX.out HXH.out HXK.out
                                (have e1 := hl.txt; rw [HN0.out] at e1; have e2 := Option.some.inj (HSA.out.symm.trans e1); have e3 := hl.kpf; rw [← e2] at e3; exact absurd (HSB2.out.2 (HFKP.out.1 e3)) (by simp))
                              go_wp2
                              go_ret
                              exact BoolAns.no HNL.out HBL.out
                            | true =>
                              have HPK : Hid (Pl.PartOk n0 k x hd kp r) := ⟨HLG.out.1, HLG.out.2, HBG.out, HSA.out, HFHD.out.2 (HSB1.out.1 rfl), HFKP.out.2 (HSB2.out.1 rfl), by rw [HOH.out, HOK2.out]; omega⟩
                              have HUN : Hid (∀ i g a b, i < k + 1 → h.Logs[i]? = some g → h.Heads[i]? = some a → h.Kept[i]? = some b → ∃ l, Pl.PartOk n0 i g a b l) := fun i g a b hi hg ha hb => by
                                rcases Nat.lt_succ_iff_lt_or_eq.1 hi with h1 | rfl
                                · exact HU.out i g a b h1 hg ha hb
                                · rw [HX.out] at hg; rw [HXH.out] at ha; rw [HXK.out] at hb
                                  injection hg with hg; injection ha with ha; injection hb with hb
                                  subst hg; subst ha; subst hb
                                  exact ⟨r, HPK.out⟩
                              go_wp2
                              go_roundg (n0 - (k + 1))
                              case measure => omega
                              case rel => exact ⟨k + 1, Nat.le_refl _, by omega, by go_num, HUN.out, KS8.out⟩
                        · have l2 : decide ((mh : Int) < (mk : Nat)) = true := decide_eq_true (by omega)
                          have l2n : decide (mh < mk) = true := decide_eq_true (by omega)
                          have HNL : Hid (¬ Pl.HouseOk h) := fun hk => by
                            obtain ⟨l, hl⟩ := hk.part k x hd kp HX.out HXH.out HXK.out
                            (have h9 := hl.le; rw [HOH.out, HOK2.out] at h9; omega)
                          refine wp_region_und (by kernel_rfl) (by kernel_rfl) ?_
                          repeat (go_big_quiet_step ((first | fail)))
                          refine wpQuiet_nil ?_
                          intro X hX
                          have HBL := Lib.hid (below_step KS4.out.bel0 hX)
                          clear hX
                          go_wp2
                          go_ret
                          exact BoolAns.no HNL.out HBL.out
                      · have l1 : decide ((n9 : Int) < (mh : Nat)) = true := decide_eq_true (by omega)
                        have l1n : decide (n9 < mh) = true := decide_eq_true (by omega)
                        have HNL : Hid (¬ Pl.HouseOk h) := fun hk => by
                          obtain ⟨l, hl⟩ := hk.part k x hd kp HX.out HXH.out HXK.out
                          (have e1 := hl.txt; rw [HN0.out] at e1; have e2 := Option.some.inj (HSA.out.symm.trans e1); have e3 := (hl.hdf.ok hl.sayOk (by have := hl.len; omega)).2.1; rw [← e2, HOH.out] at e3; have := HN9.out; omega)
                        refine wp_region_und (by kernel_rfl) (by kernel_rfl) ?_
                        repeat (go_big_quiet_step ((first | fail)))
                        refine wpQuiet_nil ?_
                        intro X hX
                        have HBL := Lib.hid (below_step KS4.out.bel0 hX)
                        clear hX
                        go_wp2
                        go_ret
                        exact BoolAns.no HNL.out HBL.out
              · have z2 : (bg != 0) = true := by simpa using hbg0
                have HNL : Hid (¬ Pl.HouseOk h) := fun hk => by
                  obtain ⟨l, hl⟩ := hk.part k x hd kp HX.out HXH.out HXK.out
                  (exact hbg0 (HBE.out.symm.trans hl.bg))
                clear hbg0
                go_wp2
                go_ret
                exact BoolAns.no HNL.out HBL.out
          · obtain rfl : k = n0 := by omega
            have fc : ¬ ((k : Nat) : Int) < (k : Nat) := by omega
            have HY : Hid (Pl.HouseOk h) := ⟨by have := HN0.out; omega, by have := HN0.out; omega, by rw [HN1.out, HN0.out], by rw [HN2.out, HN0.out], fun i g a b hg ha hb => by rw [HN0.out]; exact HU.out i g a b (by have := (List.getElem?_eq_some_iff.1 hg).1; have := HN0.out; omega) hg ha hb⟩
            have HBL := Lib.hid HS.out.bel0
            go_wp2
            go_ret
            exact BoolAns.yes HY.out HBL.out
      · have hz : ((n2 : Int) != (n0 : Int)) = true := by simp; omega
        have HNL : Hid (¬ Pl.HouseOk h) := fun hk => h2 (by rw [← HN2.out, ← HN0.out]; exact hk.kpn)
        subst h1
        clear h2
        go_wp2_with (go_at_call 68; (with_reducible refine (l1In_isJ hin _).mono ?_); rintro e w' ⟨rfl, rfl⟩)
        go_ret
        exact BoolAns.no HNL.out HBL.out
    · have hz : ((n1 : Int) != (n0 : Int)) = true := by simp; omega
      have HNL : Hid (¬ Pl.HouseOk h) := fun hk => h1 (by rw [← HN1.out, ← HN0.out]; exact hk.hdn)
      clear h1
      go_wp2_with (go_at_call 68; (with_reducible refine (l1In_isJ hin _).mono ?_); rintro e w' ⟨rfl, rfl⟩)
      go_ret
      exact BoolAns.no HNL.out HBL.out
  · have hin : Pl.isIn (n0 : Int) 1 3 = false := by unfold Pl.isIn; simp; omega
    have HNL : Hid (¬ Pl.HouseOk h) := fun hk => hn ⟨by rw [← HN0.out]; exact hk.n1, by rw [← HN0.out]; exact hk.n3⟩
    clear hn
    go_wp2_with (go_at_call 68; (with_reducible refine (l1In_isJ hin _).mono ?_); rintro e w' ⟨rfl, rfl⟩)
    go_ret
    exact BoolAns.no HNL.out HBL.out
end Go.Proofs.YtbhmdnjammnlnaaGreatDoor

/-
  Contracts: GoodHouse, both sides, by one answer. Conditions: those named (Tab).
-/
namespace Go.Proofs.YtbhmdnjammnlnaaGreatDoor
open Go.RowKit
attribute [local go_sem] und_cell cha_cell World.cell?_alloc_some
theorem Pl.szI_mem {α : Type} {f : α → Int} (h : ∀ x, 0 ≤ f x) : ∀ {l : List α} {x : α}, x ∈ l → f x ≤ Pl.sumI f l
  | y :: t, x, hx => by
    have h1 := Pl.sumI_nn h t
    have h2 := h y
    show f x ≤ f y + Pl.sumI f t
    rcases List.mem_cons.1 hx with rfl | hx
    · omega
    · have := Pl.szI_mem h hx; omega
theorem Pl.house_bytes {h : House} (hs : Pl.szHouse h ≤ 1048576) : ∀ g, g ∈ h.Logs → ∀ p, p ∈ g.Pieces → p.Bytes.size ≤ 2000000 := by
  intro g hg p hp
  have h1 := Pl.szI_mem Pl.szLog_nn hg
  have h2 := Pl.szI_mem Pl.szPiece_nn hp
  have h3 := Pl.szl_nn (f := Pl.szHead) Pl.szHead_nn h.Heads
  have h4 := Pl.szl_nn (f := Pl.szHead) Pl.szHead_nn h.Kept
  have h5 : (p.Bytes.size : Int) ≤ Pl.szPiece p := by
    have := Pl.szl_nn (f := Pl.sz0) Pl.sz0_nn p.Index
    unfold Pl.szPiece Pl.szStr; omega
  have h6 : Pl.szLog g = (g.Pieces.length : Int) + Pl.sumI Pl.szPiece g.Pieces := rfl
  have h7 : Pl.szHouse h = ((h.Logs.length : Int) + Pl.sumI Pl.szLog h.Logs) + Pl.szl Pl.szHead h.Heads + Pl.szl Pl.szHead h.Kept := rfl
  omega
theorem specGoodHouse_c (h : House) (b : Bool) (hb : b = true ↔ Pl.HouseOk h) (hsz : Pl.szHouse h ≤ 1048576) (cs : List Value) (w : World) (B : Nat) (hh : rHouse.at_ w B h cs) (hB : B ≤ w.heap.size) :
    Calls Tryz.prog 23 #[.agg cs.toArray] w fun e w' => e = .returned (.bool b) ∧ Below w.heap.size w w' :=
  BoolAns.fix hb (goodHouse_c h cs w B hh hB (Pl.house_bytes hsz))
end Go.Proofs.YtbhmdnjammnlnaaGreatDoor

/-
  Contracts: RowOf, both sides. No conditions beyond those named.
-/
namespace Go.Proofs.YtbhmdnjammnlnaaGreatDoor
open Go.RowKit
attribute [local go_sem] und_cell cha_cell World.cell?_alloc_some
namespace Pl
/-- the row of a name -/
def rowOf (s : ByteArray) : List Row → Option Row
  | [] => none
  | r :: t => if rnm r = s then some r else rowOf s t
theorem rowOf_miss {s : ByteArray} : ∀ {l : List Row}, (∀ (i : Nat) x, l[i]? = some x → rnm x ≠ s) → rowOf s l = none
  | [], _ => rfl
  | r :: t, h => by
    unfold rowOf
    rw [if_neg (h 0 r rfl)]
    exact rowOf_miss fun i x hx => h (i + 1) x (by simpa using hx)
theorem rowOf_hit {s : ByteArray} : ∀ {l : List Row} {i : Nat} {x : Row}, RSort l → l[i]? = some x → rnm x = s → rowOf s l = some x
  | [], _, _, _, h, _ => by simp at h
  | r :: t, 0, x, _, h, e => by
    simp at h
    unfold rowOf
    rw [h, if_pos e]
  | r :: t, i + 1, x, hs, h, e => by
    unfold rowOf
    rw [if_neg (fun e2 => by
      have h1 := hs 0 (i + 1) r x (by omega) rfl h
      rw [e, e2, rless_irrefl] at h1; cases h1)]
    exact rowOf_hit hs.tail (by simpa using h) e
theorem rpos_none {s : ByteArray} {l : List Row} (hs : RSort l) (h : ∀ o, l[rpos s l]? = some o → rnm o ≠ s) : rowOf s l = none :=
  rowOf_miss fun i x hx e => by
    rcases Nat.lt_trichotomy i (rpos s l) with h1 | h1 | h1
    · have := rpos_lt s l i x h1 hx
      rw [e, rless_irrefl] at this; cases this
    · rw [h1] at hx; exact h x hx e
    · obtain ⟨y, hy⟩ : ∃ y, l[rpos s l]? = some y := ⟨_, List.getElem?_eq_getElem (by have := (List.getElem?_eq_some_iff.1 hx).1; omega)⟩
      have h2 := hs _ _ y x h1 hy hx
      rw [e] at h2
      rw [rpos_ge s l hs _ y (Nat.le_refl _) hy] at h2; cases h2
theorem rowOf_mem {s : ByteArray} : ∀ {l : List Row} {r : Row}, rowOf s l = some r → r ∈ l
  | x :: t, r, h => by
    unfold rowOf at h
    split at h
    · injection h with h; rw [← h]; exact List.mem_cons_self ..
    · exact List.mem_cons_of_mem _ (rowOf_mem h)
/-- its samples -/
def smpsOf : Option Row → List Sample
  | none => []
  | some r => r.Samples
theorem smpsOf_len {l : List Row} {s : ByteArray} (h : ∀ r, r ∈ l → r.Samples.length ≤ 40) : (smpsOf (rowOf s l)).length ≤ 40 := by
  cases e : rowOf s l with
  | none => exact Nat.zero_le _
  | some r => exact h r (rowOf_mem e)
end Pl
/-- a copy of a row's samples, if there is one -/
def RowAns (o : Option Row) (w : World) (e : Ending) (w' : World) : Prop :=
  ∃ A n c fp, e = .returned (.tuple #[.slice A n c, .bool o.isSome]) ∧ Mm.SepF [] w w' [Mm.tsl smp 124 (Pl.smpsOf o) (.slice A n c) fp]
theorem RowAns.no {o : Option Row} (h : o = none) {w w' : World} (hb : Below w.heap.size w w') : RowAns o w (.returned (.tuple #[.slice none 0 0, .bool false])) w' := by
  subst h
  exact ⟨none, 0, 0, [], rfl, ((Mm.SepF.start w).add hb (t := Mm.tsl smp 124 [] (.slice none 0 0) []) Mm.SlOwn.nil List.nodup_nil (fun b hb => by cases hb))⟩
set_option maxRecDepth 100000 in
set_option maxHeartbeats 4000000 in
theorem implRowOf_c (h : Head) (s : ByteArray) (cs : List Value) (w : World) (B : Nat) (hh : rHead.at_ w B h cs) (hB : B ≤ w.heap.size) (hok : Pl.HeadOk h) (hs : s.size ≤ maxLen) :
    Calls Tryz.prog 41 #[.agg cs.toArray, .string s] w (RowAns (Pl.rowOf s h.Rows) w) := by
  obtain ⟨A0, n0, c0, rfl, r0, io⟩ := rHead_at hh
  have h8 : n0 ≤ 8 := by have := hok.len; have := r0.1; omega
  have HN0 : Hid (n0 = h.Rows.length) := r0.1.symm
  have R0 := Lib.hid r0
  have HBW := Lib.hid hB
  have HK := Lib.hid hok
  obtain ⟨ga, hga⟩ : ∃ g, w.heap.size = g := ⟨_, rfl⟩
  obtain ⟨W0, hW0⟩ : ∃ W, w.alloc (.cells #[.slice A0 n0 c0, .int .i64 h.Offset] 73) = W := ⟨_, rfl⟩
  have KS0 := Lib.hid (((Mm.SepF.start w).alloc' hga 73 [.slice A0 n0 c0, .int .i64 h.Offset]).atW hW0)
  have d0 := KS0.out.cell (k := 0) 0 rfl rfl
  have d1 := KS0.out.cell (k := 1) 0 rfl rfl
  have CI := BoolAns.fix (b := true) ⟨fun _ => hok, fun _ => rfl⟩ (isHead_c h _ W0 B (rHead.keep hh fun b hb => KS0.out.bel0.block b (by omega)) (by have := KS0.out.bel0.size; omega))
  clear hh r0 hok hB
  go_enter Tryz.func41, Tryz.ntmps41
  go_wp2_with fail
  refine CI.mono ?_
  rintro e w1 ⟨rfl, hb1⟩
  obtain ⟨W1, rfl⟩ : ∃ W : World, W = w1 := ⟨_, rfl⟩
  have KS1 := Lib.hid (KS0.out.step hb1)
  clear CI d0 d1 hb1 KS0 hW0 hga
  have d0 := KS1.out.cell (k := 0) 0 rfl rfl
  have d1 := KS1.out.cell (k := 1) 0 rfl rfl
  have CF := find_c h.Rows s A0 n0 c0 ga 0 W1 B (R0.out.keep fun b hb => KS1.out.bel0.block b (by have := HBW.out; omega)) (by have := KS1.out.bel0.size; have := HBW.out; omega) (by omega) HK.out.srt d0
  go_wp2_with fail
  refine CF.mono ?_
  rintro e w2 ⟨fd, rfl, hfd, hb2⟩
  obtain ⟨W2, rfl⟩ : ∃ W : World, W = w2 := ⟨_, rfl⟩
  have KS2 := Lib.hid (KS1.out.step hb2)
  have HFD := Lib.hid hfd
  clear CF d0 d1 hb2 hfd KS1
  have d0 := KS2.out.cell (k := 0) 0 rfl rfl
  have d1 := KS2.out.cell (k := 1) 0 rfl rfl
  cases fd with
  | false =>
    have HN : Hid (Pl.rowOf s h.Rows = none) := Pl.rpos_none HK.out.srt fun o ho e => by have := HFD.out.2 ⟨o, ho, e⟩; cases this
    have HBN := Lib.hid KS2.out.bel0
    go_wp2
    go_ret2
    exact RowAns.no HN.out HBN.out
  | true =>
    obtain ⟨o, ho, he⟩ := HFD.out.1 rfl
    obtain ⟨p, hp⟩ : ∃ p, Pl.rpos s h.Rows = p := ⟨_, rfl⟩
    rw [hp] at ho ⊢
    have hpn : p < n0 := by have := (List.getElem?_eq_some_iff.1 ho).1; have := HN0.out; omega
    have HN : Hid (Pl.rowOf s h.Rows = some o) := Pl.rowOf_hit HK.out.srt ho he
    obtain ⟨x, bX, off, AH, mH, dH, hx, rfl, hbX, hnm2, hrd, e0, e1⟩ := rRow_get (R0.out.keep (w' := W2) fun b hb => KS2.out.bel0.block b (by have := HBW.out; omega)) hpn
    obtain rfl : x = o := by rw [ho] at hx; injection hx with hx; exact hx.symm
    have h40 : mH ≤ 40 := by have := Pl.samplesOk_len (HK.out.row x (List.mem_of_getElem? ho)).2.2; have := hrd.1; omega
    have CC := clSmp_c x.Samples AH mH dH W2 B hrd (by omega)
    have f2 : (0 : Int) ≤ (p : Nat) := by omega
    have f3 : ((p : Nat) : Int).toNat = p := by omega
    have f4 : (p : Int) < (n0 : Nat) := by omega
    clear hx ho he hp hnm2 hrd
    go_wp2_with (go_at_call 96; refine CC.mono ?_; clear CC; rintro e w3 ⟨A2, m2, c2, fp2, rfl, ho2, hnd2, hnew2, hb3⟩; (have HS3 := Lib.hid (KS2.out.add hb3 (t := Mm.tsl smp 124 x.Samples (.slice A2 m2 c2) fp2) ho2 hnd2 hnew2)); clear ho2 hnd2 hnew2 hb3)
    go_ret2
    rw [HN.out]
    exact ⟨A2, m2, c2, fp2, rfl, HS3.out.sel [0] (by decide) rfl⟩
theorem Tryz.infoSmpZ : (Tryz.prog.info? 124).map (fun i => (i.zero, i.size, i.bytes)) = some (some (.agg #[.int .i64 0, .int .i64 0]), 2, 16) := by kernel_rfl
set_option maxRecDepth 100000 in
set_option maxHeartbeats 4000000 in
theorem specRowOf_c (h : Head) (s : ByteArray) (cs : List Value) (w : World) (B : Nat) (hh : rHead.at_ w B h cs) (hB : B ≤ w.heap.size) (hok : Pl.HeadOk h) (hs : s.size ≤ maxLen) :
    Calls Tryz.prog 84 #[.agg cs.toArray, .string s] w (RowAns (Pl.rowOf s h.Rows) w) := by
  obtain ⟨A0, n0, c0, rfl, r0, io⟩ := rHead_at hh
  have h8 : n0 ≤ 8 := by have := hok.len; have := r0.1; omega
  have HN0 : Hid (n0 = h.Rows.length) := r0.1.symm
  have R0 := Lib.hid r0
  have HBW := Lib.hid hB
  have HK := Lib.hid hok
  obtain ⟨iS, qS, qS0, qS1, qS2⟩ := info_parts Tryz.infoSmpZ
  obtain ⟨ga, hga⟩ : ∃ g, w.heap.size = g := ⟨_, rfl⟩
  obtain ⟨W0, hW0⟩ : ∃ W, w.alloc (.cells #[.slice A0 n0 c0, .int .i64 h.Offset] 73) = W := ⟨_, rfl⟩
  have KS0 := Lib.hid (((Mm.SepF.start w).alloc' hga 73 [.slice A0 n0 c0, .int .i64 h.Offset]).atW hW0)
  have d0 := KS0.out.cell (k := 0) 0 rfl rfl
  have d1 := KS0.out.cell (k := 1) 0 rfl rfl
  have CI := BoolAns.fix (b := true) ⟨fun _ => hok, fun _ => rfl⟩ (goodHead_c h _ W0 B (rHead.keep hh fun b hb => KS0.out.bel0.block b (by omega)) (by have := KS0.out.bel0.size; omega))
  clear hh r0 hok hB
  go_enter Tryz.func84, Tryz.ntmps84
  go_wp2_with fail
  refine CI.mono ?_
  rintro e w1 ⟨rfl, hb1⟩
  obtain ⟨W1, rfl⟩ : ∃ W : World, W = w1 := ⟨_, rfl⟩
  have KS1 := Lib.hid (KS0.out.step hb1)
  clear CI d0 d1 hb1 KS0 hW0 hga
  have d0 := KS1.out.cell (k := 0) 0 rfl rfl
  have d1 := KS1.out.cell (k := 1) 0 rfl rfl
  go_upto_region 4 with fail
  clear d0 d1
  go_loopg [14] n0 (fun gg i_ wr => ∃ (k : Nat), n0 - k ≤ gg ∧ k ≤ n0 ∧ i_ = .int .i64 (k : Nat) ∧ Hid (∀ (i : Nat) x, i < k → h.Rows[i]? = some x → Pl.rnm x ≠ s) ∧ Hid (Mm.SepF [] w wr [Mm.tblk ga 73 [.slice A0 n0 c0, .int .i64 h.Offset]]))
  case atStart => exact ⟨0, by omega, by omega, rfl, fun i x hi => absurd hi (by omega), KS1.out⟩
  case round =>
    clear KS1
    obtain ⟨k, hgk, hk', rfl, HU, HS⟩ := hrel
    obtain ⟨W, rfl⟩ : ∃ W : World, W = wr := ⟨_, rfl⟩
    by_cases hlt : k < n0
    · have fc : (k : Int) < (n0 : Nat) := by omega
      obtain ⟨x, b, off, AH, mH, dH, hx, rfl, hb, hnm2, hrd, e0, e1⟩ := rRow_get (R0.out.keep (w' := W) fun b hb => HS.out.bel0.block b (by have := HBW.out; omega)) hlt
      have HX := Lib.hid hx
      have h40 : mH ≤ 40 := by have := Pl.samplesOk_len (HK.out.row x (List.mem_of_getElem? hx)).2.2; have := hrd.1; omega
      obtain ⟨gr, hgr⟩ : ∃ g, W.heap.size = g := ⟨_, rfl⟩
      obtain ⟨W2, hW2⟩ : ∃ V, W.alloc (.cells #[.string x.Name, .slice AH mH dH] 139) = V := ⟨_, rfl⟩
      have KS2 := Lib.hid ((HS.out.alloc' hgr 139 [.string x.Name, .slice AH mH dH]).atW hW2)
      have hb2 : Below W.heap.size W W2 := by rw [← hW2]; exact below_new (Below.refl _ _) _
      have HRD := Lib.hid (hrd.keep (w' := W2) fun b hb => hb2.block b (by have := HBW.out; have := HS.out.bel0.size; omega))
      have hBW2 : B ≤ W2.heap.size := by have := HBW.out; have := HS.out.bel0.size; have := hb2.size; omega
      go_upto_region 6 with fail
      clear hW2 hgr e0 e1 hrd hx HS
      have q0 := KS2.out.cell (k := 0) 0 rfl rfl
      have q1 := KS2.out.cell (k := 1) 0 rfl rfl
      by_cases he : x.Name = s
      · have he1 : (x.Name.toList == s.toList) = true := by rw [he]; simp
        have HN : Hid (Pl.rowOf s h.Rows = some x) := Pl.rowOf_hit HK.out.srt HX.out he
        clear he
        go_wp2_with (at_builtin; refine Mm.wpList_clone (by rfl) (.tmp 22) (.tmp 24) 62 (by rfl) Mm.flatA_smpK iS _ 16 Tryz.underlying62 qS qS0 qS1 qS2 rfl (by decide) KS2.out.toSep (below_new (Below.refl W2.heap.size W2) (.cells #[] 124)) (g := W2.heap.size) (heap_alloc_new W2 _) (Nat.le_refl _) (HRD.out.keep (fun b hb => Below.heap_alloc W2 _ b (by omega))) (by unfold maxLen; omega) (by omega) (by rfl) (by rfl) ?_; intro A2 c2 fp2 w3 hs3 hb3; (have HS3 := Lib.hid hs3.toF); clear hs3 hb3)
        go_ret2
        rw [HN.out]
        exact ⟨A2, mH, c2, fp2, rfl, HS3.out.sel [0] (by decide) rfl⟩
      · have he1 : (x.Name.toList == s.toList) = false := by
          rw [beq_eq_false_iff_ne]; intro e; exact he (Pl.rba_ext (by rwa [← Lib.toList_data, ← Lib.toList_data]))
        have he2 : ¬ x.Name.toList = s.toList := by simpa using he1
        have HUN : Hid (∀ (i : Nat) y, i < k + 1 → h.Rows[i]? = some y → Pl.rnm y ≠ s) := fun i y hi hy => by
          rcases Nat.lt_succ_iff_lt_or_eq.1 hi with h1 | rfl
          · exact HU.out i y h1 hy
          · have := HX.out.symm.trans hy
            injection this with this
            subst this
            exact he
        clear he
        have HSX := Lib.hid (KS2.out.sel [1] (by decide) rfl)
        go_wp2
        go_roundg (n0 - (k + 1))
        case measure => omega
        case rel => exact ⟨k + 1, by omega, by omega, by go_num, HUN.out, HSX.out⟩
    · obtain rfl : k = n0 := by omega
      have fc : ¬ ((k : Nat) : Int) < (k : Nat) := by omega
      have HN : Hid (Pl.rowOf s h.Rows = none) := Pl.rowOf_miss fun i x hx => HU.out i x (by have := (List.getElem?_eq_some_iff.1 hx).1; have := HN0.out; omega) hx
      have HBN := Lib.hid HS.out.bel0
      go_wp2
      go_ret2
      exact RowAns.no HN.out HBN.out
end Go.Proofs.YtbhmdnjammnlnaaGreatDoor

/-
  Contracts: AskHouse, both sides. Conditions: those named (Tab).
-/
namespace Go.Proofs.YtbhmdnjammnlnaaGreatDoor
open Go.RowKit
attribute [local go_sem] und_cell cha_cell World.cell?_alloc_some
namespace Pl
theorem HouseOk.ex {h : House} (k : HouseOk h) {i : Nat} (hi : i < h.Logs.length) : ∃ g a b l, h.Logs[i]? = some g ∧ h.Heads[i]? = some a ∧ h.Kept[i]? = some b ∧ PartOk h.Logs.length i g a b l := by
  obtain ⟨l, hl⟩ := k.part i _ _ _ (List.getElem?_eq_getElem hi) (List.getElem?_eq_getElem (by rw [k.hdn]; exact hi)) (List.getElem?_eq_getElem (by rw [k.kpn]; exact hi))
  exact ⟨_, _, _, l, List.getElem?_eq_getElem hi, List.getElem?_eq_getElem (by rw [k.hdn]; exact hi), List.getElem?_eq_getElem (by rw [k.kpn]; exact hi), hl⟩
theorem PartOk.head {n k : Nat} {g : Log} {hd kp : Head} {l : List Say} (h : PartOk n k g hd kp l) : HeadOk hd := (h.hdf.ok h.sayOk (by have := h.len; omega)).1
theorem HouseOk.head {h : House} (k : HouseOk h) {i : Nat} {a : Head} (ha : h.Heads[i]? = some a) : HeadOk a := by
  obtain ⟨g, a', b, l, h1, h2, h3, h4⟩ := k.ex (i := i) (by have := (List.getElem?_eq_some_iff.1 ha).1; rw [k.hdn] at this; exact this)
  rw [ha] at h2; injection h2 with h2; subst h2; exact h4.head
/-- the head that is asked -/
def askHd (h : House) (s : ByteArray) : Head := h.Heads.getD (partN (h.Logs.length : Int) s).toNat ⟨[], 0⟩
def askOf (b : Bool) (h : House) (s : ByteArray) (wait : Int) : List Sample × Bool × Bool :=
  if b = true ∧ word false s.data.toList = true ∧ isIn wait 0 60 = true then
    if (askHd h s).Offset < wait then ([], false, true) else (smpsOf (rowOf s (askHd h s).Rows), true, true)
  else ([], false, false)
theorem askOf_no {b : Bool} {h : House} {s : ByteArray} {wait : Int} (k : ¬ (b = true ∧ word false s.data.toList = true ∧ isIn wait 0 60 = true)) : askOf b h s wait = ([], false, false) := if_neg k
theorem askOf_len {b : Bool} {h : House} (hb : b = true ↔ HouseOk h) (s : ByteArray) (wait : Int) : (askOf b h s wait).1.length ≤ 40 := by
  unfold askOf
  split
  · rename_i k
    have hk := hb.1 k.1
    split
    · exact Nat.zero_le _
    · refine smpsOf_len fun r hr => ?_
      by_cases hc : (partN (h.Logs.length : Int) s).toNat < h.Heads.length
      · exact samplesOk_len ((hk.head (i := (partN (h.Logs.length : Int) s).toNat) (a := askHd h s) (by unfold askHd; rw [List.getD_eq_getElem?_getD, List.getElem?_eq_getElem hc]; rfl)).row r hr).2.2
      · unfold askHd at hr
        rw [List.getD_eq_getElem?_getD, List.getElem?_eq_none (by omega)] at hr
        cases hr
  · exact Nat.zero_le _
theorem askHd_at {h : House} {s : ByteArray} {k : Nat} {a : Head} (hk : partN (h.Logs.length : Int) s = (k : Nat)) (ha : h.Heads[k]? = some a) : askHd h s = a := by
  unfold askHd
  rw [hk, List.getD_eq_getElem?_getD, Int.toNat_natCast, ha]; rfl
end Pl
def AskAns (x : List Sample × Bool × Bool) (w : World) (e : Ending) (w' : World) : Prop :=
  ∃ A n c fp, e = .returned (.tuple #[.slice A n c, .bool x.2.1, .bool x.2.2]) ∧ Mm.SepF [] w w' [Mm.tsl smp 124 x.1 (.slice A n c) fp]
theorem AskAns.no {x : List Sample × Bool × Bool} {b : Bool} (h : x = ([], false, b)) {w w' : World} (hb : Below w.heap.size w w') : AskAns x w (.returned (.tuple #[.slice none 0 0, .bool false, .bool b])) w' := by
  subst h
  exact ⟨none, 0, 0, [], rfl, ((Mm.SepF.start w).add hb (t := Mm.tsl smp 124 [] (.slice none 0 0) []) Mm.SlOwn.nil List.nodup_nil (fun b hb => by cases hb))⟩
set_option maxRecDepth 100000 in
set_option maxHeartbeats 4000000 in
theorem implAskHouse_c (h : House) (b : Bool) (hb : b = true ↔ Pl.HouseOk h) (Bt : Nat) (cs : List Value) (s : ByteArray) (wait : Int) (w : World) (B : Nat) (hh : rHouse.at_ w B h cs) (hB : B ≤ w.heap.size) (ht : Tab Bt w) (hs : s.size ≤ maxLen) :
    Calls Tryz.prog 33 #[.agg cs.toArray, .string s, .int .i64 wait] w (AskAns (Pl.askOf b h s wait) w) := by
  obtain ⟨A0, n0, c0, A1, n1, c1, A2, n2, c2, rfl, r0, r1, r2⟩ := rHouse_at hh
  have HNN : Hid (h.Logs.length = n0) := r0.1
  have HNH : Hid (h.Heads.length = n1) := r1.1
  have R1 := Lib.hid r1
  have HBW := Lib.hid hB
  have HBO := Lib.hid hb
  obtain ⟨ga, hga⟩ : ∃ g, w.heap.size = g := ⟨_, rfl⟩
  obtain ⟨W0, hW0⟩ : ∃ W, w.alloc (.cells #[.slice A0 n0 c0, .slice A1 n1 c1, .slice A2 n2 c2] 27) = W := ⟨_, rfl⟩
  have KS0 := Lib.hid (((Mm.SepF.start w).alloc' hga 27 [.slice A0 n0 c0, .slice A1 n1 c1, .slice A2 n2 c2]).atW hW0)
  have d0 := KS0.out.cell (k := 0) 0 rfl rfl
  have d1 := KS0.out.cell (k := 1) 0 rfl rfl
  have d2 := KS0.out.cell (k := 2) 0 rfl rfl
  have CG := (BoolAns.fix hb (isHouse_c h _ W0 B Bt (rHouse.keep hh fun b hb => KS0.out.bel0.block b (by omega)) (by have := KS0.out.bel0.size; omega) (ht.on KS0.out.bel0)))
  clear hh r0 r1 r2 hb hB
  go_enter Tryz.func33, Tryz.ntmps33
  go_wp2_with fail
  refine CG.mono ?_
  rintro e w1 ⟨rfl, hb1⟩
  obtain ⟨W1, rfl⟩ : ∃ W : World, W = w1 := ⟨_, rfl⟩
  have HS1 := Lib.hid (KS0.out.step hb1)
  have HB1 := Lib.hid HS1.out.bel0
  clear CG d0 d1 d2 hb1 KS0 hW0 hga
  have d0 := HS1.out.cell (k := 0) 0 rfl rfl
  have d1 := HS1.out.cell (k := 1) 0 rfl rfl
  obtain ⟨wd, hwd⟩ : ∃ z, Pl.word false s.data.toList = z := ⟨_, rfl⟩
  obtain ⟨inb, hin⟩ : ∃ z, Pl.isIn wait 0 60 = z := ⟨_, rfl⟩
  have CW := isWord_c s false W1 hs
  rw [hwd] at CW
  have CI := within_isJ hin W1
  have HWD := Lib.hid hwd
  have HIN := Lib.hid hin
  clear hwd hin
  cases b with
  | false =>
    have HN : Hid (Pl.askOf false h s wait = ([], false, false)) := Pl.askOf_no (fun hh => by cases hh.1)
    go_wp2_with (first | (go_at_call 85; (with_reducible refine CW.mono ?_); rintro e w' ⟨rfl, rfl⟩) | (go_at_call 55; (with_reducible refine CI.mono ?_); rintro e w' ⟨rfl, rfl⟩))
    go_ret3
    exact AskAns.no HN.out HB1.out
  | true =>
    cases wd with
    | false =>
      have HN : Hid (Pl.askOf true h s wait = ([], false, false)) := Pl.askOf_no (fun hh => by have := HWD.out.symm.trans hh.2.1; cases this)
      go_wp2_with (first | (go_at_call 85; (with_reducible refine CW.mono ?_); rintro e w' ⟨rfl, rfl⟩) | (go_at_call 55; (with_reducible refine CI.mono ?_); rintro e w' ⟨rfl, rfl⟩))
      go_ret3
      exact AskAns.no HN.out HB1.out
    | true =>
      cases inb with
      | false =>
        have HN : Hid (Pl.askOf true h s wait = ([], false, false)) := Pl.askOf_no (fun hh => by have := HIN.out.symm.trans hh.2.2; cases this)
        go_wp2_with (first | (go_at_call 85; (with_reducible refine CW.mono ?_); rintro e w' ⟨rfl, rfl⟩) | (go_at_call 55; (with_reducible refine CI.mono ?_); rintro e w' ⟨rfl, rfl⟩))
        go_ret3
        exact AskAns.no HN.out HB1.out
      | true =>
        have HK := Lib.hid (HBO.out.1 rfl)
        obtain rfl : n1 = n0 := by have := HK.out.hdn; have := HNN.out; have := HNH.out; omega
        have hn1 : 1 ≤ n1 ∧ n1 ≤ 3 := by have := HK.out.n1; have := HK.out.n3; have := HNN.out; omega
        have hn1' : (1 : Int) ≤ (n1 : Nat) := by omega
        have hn0 : ¬ ((n1 : Nat) : Int) = 0 := by omega
        have CH := fun z : World => hashText_c s z hs
        have hh := Pl.hash_bd s.data.toList
        have HPN : Hid (Pl.partN (n1 : Int) s = Pl.hash s.data.toList % (n1 : Int)) := rfl
        obtain ⟨hv, hhv⟩ : ∃ v, Pl.hash s.data.toList = v := ⟨_, rfl⟩
        rw [hhv] at hh HPN
        simp only [hhv] at CH
        obtain ⟨hh1, hh2⟩ := hh
        have htm : hv.tmod (n1 : Int) = hv % (n1 : Int) := Int.tmod_eq_emod_of_nonneg hh1
        obtain ⟨k, hk⟩ : ∃ k : Nat, hv % (n1 : Int) = k := ⟨(hv % (n1 : Int)).toNat, by have := Int.emod_nonneg hv (b := (n1 : Int)) (by omega); omega⟩
        have hkn : k < n1 := by have := Int.emod_lt_of_pos hv (b := (n1 : Int)) (by omega); omega
        rw [hk] at htm HPN
        obtain ⟨x, bX, oX, AH, mH, dH, hx, rfl, hbX, hrp, hbg, e0, e1⟩ := rHead_get (R1.out.keep (w' := W1) fun b hb => HS1.out.bel0.block b (by have := HBW.out; omega)) hkn
        have HAT := Lib.hid (rHead_at_mk hrp hbg)
        have HX : Hid (Pl.askHd h s = x) := Pl.askHd_at (by rw [HNN.out]; exact HPN.out) hx
        have HXK := Lib.hid (HK.out.head hx)
        have f2 : (0 : Int) ≤ (k : Nat) := by omega
        have f3 : ((k : Nat) : Int).toNat = k := by omega
        have f4 : (k : Int) < (n1 : Nat) := by omega
        clear hhv hk hrp hbg hx
        go_upto_region 3 with (first | (go_at_call 85; (with_reducible refine CW.mono ?_); rintro e w' ⟨rfl, rfl⟩) | (go_at_call 55; (with_reducible refine CI.mono ?_); rintro e w' ⟨rfl, rfl⟩))
        clear CW CI
        refine Mm.wp_region_give 11 (fun i => match i with | 3 => some (Mm.gVal (.int .i64 hv)) | 10 => some (Mm.gPtr 73 [.slice none 0 0, .int .i64 0]) | _ => none) (fun _ => []) (fun _ => []) (F := []) (D := fun w' => ∃ x : Und W1, w' = und W1 x) (fun X us h => Mm.sep_und h) (by kernel_rfl) (by kernel_rfl) (by kernel_rfl) (Mm.SepF.startDrew _) ?_
        repeat (refine Mm.give_det (by rfl) (by rfl) (by rfl) (fun K hK => ?_); go_big_quiet_op; refine hK _ ?_; clear hK K)
        refine Mm.give_op0 28 (by rfl) rfl (by rfl) (by rfl) (by rfl) (by rfl) ⟨_, _, rfl, rfl⟩ (fun others X hX => ?_) ?_
        · go_wp2_with (go_at_call 86; (with_reducible refine (CH _).mono ?_); rintro e w' ⟨rfl, rfl⟩)
          exact Mm.gvq_val hX (Below.refl _ _) rfl rfl
        rintro v ds ⟨rfl, rfl⟩
        simp only [Act.put, List.setIfInBounds_toArray, List.set_cons_succ, List.set_cons_zero]
        repeat (refine Mm.give_det (by rfl) (by rfl) (by rfl) (fun K hK => ?_); go_big_quiet_op; refine hK _ ?_; clear hK K)
        refine Mm.give_op0 9 (by rfl) rfl (by rfl) (by rfl) (by rfl) (by rfl) Mm.gPtr_in (fun others X hX => ?_) ?_
        · go_wp2
          exact Mm.gvq_ptr hX rfl rfl rfl
        rintro v ds ⟨gp, rfl, rfl⟩
        simp only [Act.put, List.setIfInBounds_toArray, List.set_cons_succ, List.set_cons_zero]
        repeat (refine Mm.give_det (by rfl) (by rfl) (by rfl) (fun K hK => ?_); go_big_quiet_op; refine hK _ ?_; clear hK K)
        refine Mm.give_nil ?_
        rintro X hX
        have HSX := Lib.hid (HS1.out.join (us := [Mm.tblk gp 73 [.slice none 0 0, .int .i64 0]]) hX)
        clear hX d0 d1 e0 e1 CH
        have b0 := HSX.out.cell (k := 0) 0 rfl rfl
        have b1 := HSX.out.cell (k := 1) 0 rfl rfl
        have y0 := HSX.out.frz (k := 0) 0 rfl
        have y1 := HSX.out.frz (k := 1) 0 rfl
        go_upto_region 4 with fail
        obtain ⟨WN, hWN⟩ : ∃ W, (X.setCell ⟨gp, 0, none⟩ (.slice AH mH dH)).setCell ⟨gp, 1, none⟩ (.int .i64 x.Offset) = W := ⟨_, rfl⟩
        have HSN := Lib.hid (((HSX.out.setBlk (k := 0) 0 rfl (.slice AH mH dH)).setBlk (k := 1) 0 rfl (.int .i64 x.Offset)).atW hWN)
        rw [hWN]
        clear hWN HSX b0 b1 y0 y1
        have b0 := HSN.out.cell (k := 0) 0 rfl rfl
        have b1 := HSN.out.cell (k := 1) 0 rfl rfl
        by_cases hof : x.Offset < wait
        · have HN : Hid (Pl.askOf true h s wait = ([], false, true)) := by
            unfold Pl.askOf
            show _ = _
            rw [if_pos ⟨rfl, HWD.out, HIN.out⟩, HX.out, if_pos hof]
          have HBN := Lib.hid HSN.out.bel0
          go_wp2
          go_ret3
          exact AskAns.no HN.out HBN.out
        · have HN : Hid (Pl.askOf true h s wait = (Pl.smpsOf (Pl.rowOf s x.Rows), true, true)) := by
            unfold Pl.askOf
            show _ = _
            rw [if_pos ⟨rfl, HWD.out, HIN.out⟩, HX.out, if_neg hof]
          have CR := implRowOf_c x s [.slice AH mH dH, .int .i64 x.Offset] WN B (rHead.keep HAT.out fun b hb => (HSN.out.bel0.block b (by have := HBW.out; omega)).trans (HS1.out.bel0.block b (by have := HBW.out; omega)).symm) (by have := HSN.out.bel0.size; have := HBW.out; omega) HXK.out hs
          go_wp2_with (go_at_call 41; (with_reducible refine CR.mono ?_); clear CR; rintro e w5 ⟨A5, n5, c5, f5, rfl, hS5⟩; (have HS5 := Lib.hid (HSN.out.join hS5)); clear hS5)
          go_ret3
          rw [HN.out]
          exact ⟨A5, n5, c5, f5, rfl, HS5.out.sel [0] (by decide) rfl⟩
set_option maxRecDepth 100000 in
set_option maxHeartbeats 4000000 in
theorem specAskHouse_c (h : House) (b : Bool) (hb : b = true ↔ Pl.HouseOk h) (hsz : Pl.szHouse h ≤ 1048576) (cs : List Value) (s : ByteArray) (wait : Int) (w : World) (B : Nat) (hh : rHouse.at_ w B h cs) (hB : B ≤ w.heap.size) (hs : s.size ≤ maxLen) :
    Calls Tryz.prog 32 #[.agg cs.toArray, .string s, .int .i64 wait] w (AskAns (Pl.askOf b h s wait) w) := by
  obtain ⟨A0, n0, c0, A1, n1, c1, A2, n2, c2, rfl, r0, r1, r2⟩ := rHouse_at hh
  have HNN : Hid (h.Logs.length = n0) := r0.1
  have HNH : Hid (h.Heads.length = n1) := r1.1
  have R1 := Lib.hid r1
  have HBW := Lib.hid hB
  have HBO := Lib.hid hb
  obtain ⟨ga, hga⟩ : ∃ g, w.heap.size = g := ⟨_, rfl⟩
  obtain ⟨W0, hW0⟩ : ∃ W, w.alloc (.cells #[.slice A0 n0 c0, .slice A1 n1 c1, .slice A2 n2 c2] 27) = W := ⟨_, rfl⟩
  have KS0 := Lib.hid (((Mm.SepF.start w).alloc' hga 27 [.slice A0 n0 c0, .slice A1 n1 c1, .slice A2 n2 c2]).atW hW0)
  have d0 := KS0.out.cell (k := 0) 0 rfl rfl
  have d1 := KS0.out.cell (k := 1) 0 rfl rfl
  have d2 := KS0.out.cell (k := 2) 0 rfl rfl
  have CG := (specGoodHouse_c h b hb hsz _ W0 B (rHouse.keep hh fun b hb => KS0.out.bel0.block b (by omega)) (by have := KS0.out.bel0.size; omega))
  clear hh r0 r1 r2 hb hB
  go_enter Tryz.func32, Tryz.ntmps32
  go_wp2_with fail
  refine CG.mono ?_
  rintro e w1 ⟨rfl, hb1⟩
  obtain ⟨W1, rfl⟩ : ∃ W : World, W = w1 := ⟨_, rfl⟩
  have HS1 := Lib.hid (KS0.out.step hb1)
  have HB1 := Lib.hid HS1.out.bel0
  clear CG d0 d1 d2 hb1 KS0 hW0 hga
  have d0 := HS1.out.cell (k := 0) 0 rfl rfl
  have d1 := HS1.out.cell (k := 1) 0 rfl rfl
  obtain ⟨wd, hwd⟩ : ∃ z, Pl.word false s.data.toList = z := ⟨_, rfl⟩
  obtain ⟨inb, hin⟩ : ∃ z, Pl.isIn wait 0 60 = z := ⟨_, rfl⟩
  have CW := l3Name_c s false W1 hs
  rw [hwd] at CW
  have CI := l1In_isJ hin W1
  have HWD := Lib.hid hwd
  have HIN := Lib.hid hin
  clear hwd hin
  cases b with
  | false =>
    have HN : Hid (Pl.askOf false h s wait = ([], false, false)) := Pl.askOf_no (fun hh => by cases hh.1)
    go_wp2_with (first | (go_at_call 82; (with_reducible refine CW.mono ?_); rintro e w' ⟨rfl, rfl⟩) | (go_at_call 68; (with_reducible refine CI.mono ?_); rintro e w' ⟨rfl, rfl⟩))
    go_ret3
    exact AskAns.no HN.out HB1.out
  | true =>
    cases wd with
    | false =>
      have HN : Hid (Pl.askOf true h s wait = ([], false, false)) := Pl.askOf_no (fun hh => by have := HWD.out.symm.trans hh.2.1; cases this)
      go_wp2_with (first | (go_at_call 82; (with_reducible refine CW.mono ?_); rintro e w' ⟨rfl, rfl⟩) | (go_at_call 68; (with_reducible refine CI.mono ?_); rintro e w' ⟨rfl, rfl⟩))
      go_ret3
      exact AskAns.no HN.out HB1.out
    | true =>
      cases inb with
      | false =>
        have HN : Hid (Pl.askOf true h s wait = ([], false, false)) := Pl.askOf_no (fun hh => by have := HIN.out.symm.trans hh.2.2; cases this)
        go_wp2_with (first | (go_at_call 82; (with_reducible refine CW.mono ?_); rintro e w' ⟨rfl, rfl⟩) | (go_at_call 68; (with_reducible refine CI.mono ?_); rintro e w' ⟨rfl, rfl⟩))
        go_ret3
        exact AskAns.no HN.out HB1.out
      | true =>
        have HK := Lib.hid (HBO.out.1 rfl)
        obtain rfl : n1 = n0 := by have := HK.out.hdn; have := HNN.out; have := HNH.out; omega
        have hn1 : 1 ≤ n1 ∧ n1 ≤ 3 := by have := HK.out.n1; have := HK.out.n3; have := HNN.out; omega
        have hn1' : (1 : Int) ≤ (n1 : Nat) := by omega
        have hn0 : ¬ ((n1 : Nat) : Int) = 0 := by omega
        have CH := fun z : World => l3Hash_c s z hs
        have hh := Pl.hash_bd s.data.toList
        have HPN : Hid (Pl.partN (n1 : Int) s = Pl.hash s.data.toList % (n1 : Int)) := rfl
        obtain ⟨hv, hhv⟩ : ∃ v, Pl.hash s.data.toList = v := ⟨_, rfl⟩
        rw [hhv] at hh HPN
        simp only [hhv] at CH
        obtain ⟨hh1, hh2⟩ := hh
        have htm : hv.tmod (n1 : Int) = hv % (n1 : Int) := Int.tmod_eq_emod_of_nonneg hh1
        obtain ⟨k, hk⟩ : ∃ k : Nat, hv % (n1 : Int) = k := ⟨(hv % (n1 : Int)).toNat, by have := Int.emod_nonneg hv (b := (n1 : Int)) (by omega); omega⟩
        have hkn : k < n1 := by have := Int.emod_lt_of_pos hv (b := (n1 : Int)) (by omega); omega
        rw [hk] at htm HPN
        obtain ⟨x, bX, oX, AH, mH, dH, hx, rfl, hbX, hrp, hbg, e0, e1⟩ := rHead_get (R1.out.keep (w' := W1) fun b hb => HS1.out.bel0.block b (by have := HBW.out; omega)) hkn
        have HAT := Lib.hid (rHead_at_mk hrp hbg)
        have HX : Hid (Pl.askHd h s = x) := Pl.askHd_at (by rw [HNN.out]; exact HPN.out) hx
        have HXK := Lib.hid (HK.out.head hx)
        have f2 : (0 : Int) ≤ (k : Nat) := by omega
        have f3 : ((k : Nat) : Int).toNat = k := by omega
        have f4 : (k : Int) < (n1 : Nat) := by omega
        clear hhv hk hrp hbg hx
        go_upto_region 3 with (first | (go_at_call 82; (with_reducible refine CW.mono ?_); rintro e w' ⟨rfl, rfl⟩) | (go_at_call 68; (with_reducible refine CI.mono ?_); rintro e w' ⟨rfl, rfl⟩))
        clear CW CI
        refine Mm.wp_region_give 11 (fun i => match i with | 3 => some (Mm.gVal (.int .i64 hv)) | 10 => some (Mm.gPtr 73 [.slice none 0 0, .int .i64 0]) | _ => none) (fun _ => []) (fun _ => []) (F := []) (D := fun w' => ∃ x : Und W1, w' = und W1 x) (fun X us h => Mm.sep_und h) (by kernel_rfl) (by kernel_rfl) (by kernel_rfl) (Mm.SepF.startDrew _) ?_
        repeat (refine Mm.give_det (by rfl) (by rfl) (by rfl) (fun K hK => ?_); go_big_quiet_op; refine hK _ ?_; clear hK K)
        refine Mm.give_op0 28 (by rfl) rfl (by rfl) (by rfl) (by rfl) (by rfl) ⟨_, _, rfl, rfl⟩ (fun others X hX => ?_) ?_
        · go_wp2_with (go_at_call 83; (with_reducible refine (CH _).mono ?_); rintro e w' ⟨rfl, rfl⟩)
          exact Mm.gvq_val hX (Below.refl _ _) rfl rfl
        rintro v ds ⟨rfl, rfl⟩
        simp only [Act.put, List.setIfInBounds_toArray, List.set_cons_succ, List.set_cons_zero]
        repeat (refine Mm.give_det (by rfl) (by rfl) (by rfl) (fun K hK => ?_); go_big_quiet_op; refine hK _ ?_; clear hK K)
        refine Mm.give_op0 9 (by rfl) rfl (by rfl) (by rfl) (by rfl) (by rfl) Mm.gPtr_in (fun others X hX => ?_) ?_
        · go_wp2
          exact Mm.gvq_ptr hX rfl rfl rfl
        rintro v ds ⟨gp, rfl, rfl⟩
        simp only [Act.put, List.setIfInBounds_toArray, List.set_cons_succ, List.set_cons_zero]
        repeat (refine Mm.give_det (by rfl) (by rfl) (by rfl) (fun K hK => ?_); go_big_quiet_op; refine hK _ ?_; clear hK K)
        refine Mm.give_nil ?_
        rintro X hX
        have HSX := Lib.hid (HS1.out.join (us := [Mm.tblk gp 73 [.slice none 0 0, .int .i64 0]]) hX)
        clear hX d0 d1 e0 e1 CH
        have b0 := HSX.out.cell (k := 0) 0 rfl rfl
        have b1 := HSX.out.cell (k := 1) 0 rfl rfl
        have y0 := HSX.out.frz (k := 0) 0 rfl
        have y1 := HSX.out.frz (k := 1) 0 rfl
        go_upto_region 4 with fail
        obtain ⟨WN, hWN⟩ : ∃ W, (X.setCell ⟨gp, 0, none⟩ (.slice AH mH dH)).setCell ⟨gp, 1, none⟩ (.int .i64 x.Offset) = W := ⟨_, rfl⟩
        have HSN := Lib.hid (((HSX.out.setBlk (k := 0) 0 rfl (.slice AH mH dH)).setBlk (k := 1) 0 rfl (.int .i64 x.Offset)).atW hWN)
        rw [hWN]
        clear hWN HSX b0 b1 y0 y1
        have b0 := HSN.out.cell (k := 0) 0 rfl rfl
        have b1 := HSN.out.cell (k := 1) 0 rfl rfl
        by_cases hof : x.Offset < wait
        · have HN : Hid (Pl.askOf true h s wait = ([], false, true)) := by
            unfold Pl.askOf
            show _ = _
            rw [if_pos ⟨rfl, HWD.out, HIN.out⟩, HX.out, if_pos hof]
          have HBN := Lib.hid HSN.out.bel0
          go_wp2
          go_ret3
          exact AskAns.no HN.out HBN.out
        · have HN : Hid (Pl.askOf true h s wait = (Pl.smpsOf (Pl.rowOf s x.Rows), true, true)) := by
            unfold Pl.askOf
            show _ = _
            rw [if_pos ⟨rfl, HWD.out, HIN.out⟩, HX.out, if_neg hof]
          have CR := specRowOf_c x s [.slice AH mH dH, .int .i64 x.Offset] WN B (rHead.keep HAT.out fun b hb => (HSN.out.bel0.block b (by have := HBW.out; omega)).trans (HS1.out.bel0.block b (by have := HBW.out; omega)).symm) (by have := HSN.out.bel0.size; have := HBW.out; omega) HXK.out hs
          go_wp2_with (go_at_call 84; (with_reducible refine CR.mono ?_); clear CR; rintro e w5 ⟨A5, n5, c5, f5, rfl, hS5⟩; (have HS5 := Lib.hid (HSN.out.join hS5)); clear hS5)
          go_ret3
          rw [HN.out]
          exact ⟨A5, n5, c5, f5, rfl, HS5.out.sel [0] (by decide) rfl⟩
end Go.Proofs.YtbhmdnjammnlnaaGreatDoor

/-
  The laws' own comparisons answer true of two things that read alike. No conditions.
-/
namespace Go.Proofs.YtbhmdnjammnlnaaGreatDoor
open Go.RowKit
attribute [local go_sem] und_cell
set_option maxHeartbeats 1000000 in
theorem eqIntS_c (l : List Int) (A A' : Option Addr) (n n' c c' : Nat) (w : World) (B : Nat) (hl : Mm.SlAt Mm.int w B l A n c) (hl' : Mm.SlAt Mm.int w B l A' n' c') (hB : B ≤ w.heap.size) :
    Calls Tryz.prog 199 #[.slice A n c, .slice A' n' c'] w fun e w' => e = .returned (.bool true) ∧ Below w.heap.size w w' := by
  obtain rfl : n = n' := hl.1.symm.trans hl'.1
  have hn : n ≤ 9223372036854775807 := by have := hl.2.1; have := hl.2.2.1; unfold maxLen at this; omega
  have HL : Hid (Mm.SlAt Mm.int w B l A n c ∧ Mm.SlAt Mm.int w B l A' n c') := ⟨hl, hl'⟩
  clear hl hl'
  go_enter Tryz.func199, Tryz.ntmps199
  go_wp2
  go_loopw [5] (fun i wr => ∃ k : Nat, k ≤ n ∧ i = .int .i64 k ∧ Below w.heap.size w wr) (fun i _ => n - (intOf i).toNat)
  case atStart => exact ⟨0, Nat.zero_le _, rfl, Below.refl _ _⟩
  case round =>
    obtain ⟨k, hk, rfl, hbel⟩ := hrel
    rename_i wr _
    by_cases hlt : k < n
    · obtain ⟨x, b, off, hx, rfl, hb, uf0, uc0⟩ := int_get (HL.out.1.keep (w' := wr) (fun b hb => hbel.block b (by omega))) hlt
      obtain ⟨y, b', off', hy, rfl, hb', vf0, vc0⟩ := int_get (HL.out.2.keep (w' := wr) (fun b hb => hbel.block b (by omega))) hlt
      obtain rfl : x = y := by rw [hx] at hy; injection hy
      have hBw : B ≤ wr.heap.size := Nat.le_trans hB hbel.size
      clear hx hy uf0 vf0
      go_wp2
      refine wp_region_und (by kernel_rfl) (by kernel_rfl) ?_
      repeat (go_big_quiet_step ((first | fail)))
      refine wpQuiet_nil ?_
      intro X hX
      go_wp2
      go_roundw
      case rel => exact ⟨k + 1, by omega, by go_num, below_step hbel hX⟩
      case measure => simp [intOf]; omega
    · go_wp2
      go_ret
      exact ⟨rfl, hbel⟩
set_option maxHeartbeats 1000000 in
theorem eqSample_c (x : Sample)  (w : World) :
    Calls Tryz.prog 87 #[.agg #[.int .i64 x.At, .int .i64 x.Value], .agg #[.int .i64 x.At, .int .i64 x.Value]] w fun e w' => e = .returned (.bool true) ∧ Below w.heap.size w w' := by
  go_enter Tryz.func87, Tryz.ntmps87
  go_wp2
  go_ret
  exact ⟨rfl, below_new (below_new (Below.refl _ _) _) _⟩
set_option maxHeartbeats 1000000 in
theorem eqSampleS_c (l : List Sample) (A A' : Option Addr) (n n' c c' : Nat) (w : World) (B : Nat) (hl : Mm.SlAt smp w B l A n c) (hl' : Mm.SlAt smp w B l A' n' c') (hB : B ≤ w.heap.size) :
    Calls Tryz.prog 34 #[.slice A n c, .slice A' n' c'] w fun e w' => e = .returned (.bool true) ∧ Below w.heap.size w w' := by
  obtain rfl : n = n' := hl.1.symm.trans hl'.1
  have hn : n ≤ 9223372036854775807 := by have := hl.2.1; have := hl.2.2.1; unfold maxLen at this; omega
  have HL : Hid (Mm.SlAt smp w B l A n c ∧ Mm.SlAt smp w B l A' n c') := ⟨hl, hl'⟩
  clear hl hl'
  go_enter Tryz.func34, Tryz.ntmps34
  go_wp2
  go_loopw [5] (fun i wr => ∃ k : Nat, k ≤ n ∧ i = .int .i64 k ∧ Below w.heap.size w wr) (fun i _ => n - (intOf i).toNat)
  case atStart => exact ⟨0, Nat.zero_le _, rfl, Below.refl _ _⟩
  case round =>
    obtain ⟨k, hk, rfl, hbel⟩ := hrel
    rename_i wr _
    by_cases hlt : k < n
    · obtain ⟨x, b, off, hx, rfl, hb, uf0, uf1, uc0, uc1⟩ := smp_get (HL.out.1.keep (w' := wr) (fun b hb => hbel.block b (by omega))) hlt
      obtain ⟨y, b', off', hy, rfl, hb', vf0, vf1, vc0, vc1⟩ := smp_get (HL.out.2.keep (w' := wr) (fun b hb => hbel.block b (by omega))) hlt
      obtain rfl : x = y := by rw [hx] at hy; injection hy
      have hBw : B ≤ wr.heap.size := Nat.le_trans hB hbel.size
      clear hx hy uf0 uf1 vf0 vf1
      go_wp2
      refine wp_region_und (by kernel_rfl) (by kernel_rfl) ?_
      repeat (go_big_quiet_step ((first | (go_at_call 87; exact und_call _ (eqSample_c x _)))))
      refine wpQuiet_nil ?_
      intro X hX
      go_wp2
      go_roundw
      case rel => exact ⟨k + 1, by omega, by go_num, below_step hbel hX⟩
      case measure => simp [intOf]; omega
    · go_wp2
      go_ret
      exact ⟨rfl, hbel⟩
set_option maxHeartbeats 1000000 in
theorem eqRow_c (x : Row) (A : Option Addr) (n c : Nat) (A' : Option Addr) (n' c' : Nat) (w : World) (B : Nat) (g0 : Mm.SlAt smp w B x.Samples A n c) (g0' : Mm.SlAt smp w B x.Samples A' n' c') (hB : B ≤ w.heap.size) :
    Calls Tryz.prog 182 #[.agg #[.string x.Name, .slice A n c], .agg #[.string x.Name, .slice A' n' c']] w fun e w' => e = .returned (.bool true) ∧ Below w.heap.size w w' := by
  have HK1 := Lib.hid ((Mm.Blk.new w 139 [.string x.Name, .slice A n c]).alloc (.cells #[.string x.Name, .slice A' n' c'] 139))
  have HK2 := Lib.hid (Mm.Blk.new' (w.alloc (.cells #[.string x.Name, .slice A n c] 139)) 139 [.string x.Name, .slice A' n' c'] (Mm.sz1 _ _))
  have hb0 : Below w.heap.size w ((w.alloc (.cells #[.string x.Name, .slice A n c] 139)).alloc (.cells #[.string x.Name, .slice A' n' c'] 139)) := below_new (below_new (Below.refl _ _) _) _
  have HB0 := Lib.hid hb0
  have HG := Lib.hid (And.intro hB (And.intro g0 g0'))
  clear hB g0 g0'
  clear hb0
  go_enter Tryz.func182, Tryz.ntmps182
  go_wp2_with fail
  refine (eqSampleS_c x.Samples _ _ _ _ _ _ _ B (HG.out.2.1.keep fun b hb => HB0.out.block b (Nat.lt_of_lt_of_le hb HG.out.1)) (HG.out.2.2.keep fun b hb => HB0.out.block b (Nat.lt_of_lt_of_le hb HG.out.1)) (Nat.le_trans HG.out.1 HB0.out.size)).mono ?_
  rintro e w1 ⟨rfl, hb1⟩
  have HB1 := Lib.hid (below_step HB0.out hb1)
  have HK1 := Lib.hid (HK1.out.bel hb1)
  have HK2 := Lib.hid (HK2.out.bel hb1)
  clear hb1
  go_wp2
  go_ret
  exact ⟨rfl, HB1.out⟩
set_option maxHeartbeats 1000000 in
theorem eqRowS_c (l : List Row) (A A' : Option Addr) (n n' c c' : Nat) (w : World) (B : Nat) (hl : Mm.SlAt rRow w B l A n c) (hl' : Mm.SlAt rRow w B l A' n' c') (hB : B ≤ w.heap.size) :
    Calls Tryz.prog 157 #[.slice A n c, .slice A' n' c'] w fun e w' => e = .returned (.bool true) ∧ Below w.heap.size w w' := by
  obtain rfl : n = n' := hl.1.symm.trans hl'.1
  have hn : n ≤ 9223372036854775807 := by have := hl.2.1; have := hl.2.2.1; unfold maxLen at this; omega
  have HL : Hid (Mm.SlAt rRow w B l A n c ∧ Mm.SlAt rRow w B l A' n c') := ⟨hl, hl'⟩
  clear hl hl'
  go_enter Tryz.func157, Tryz.ntmps157
  go_wp2
  go_loopw [5] (fun i wr => ∃ k : Nat, k ≤ n ∧ i = .int .i64 k ∧ Below w.heap.size w wr) (fun i _ => n - (intOf i).toNat)
  case atStart => exact ⟨0, Nat.zero_le _, rfl, Below.refl _ _⟩
  case round =>
    obtain ⟨k, hk, rfl, hbel⟩ := hrel
    rename_i wr _
    by_cases hlt : k < n
    · obtain ⟨x, b, off, A1, n1, c1, hx, rfl, hb, uf0, uf1, uc0, uc1⟩ := rRow_get (HL.out.1.keep (w' := wr) (fun b hb => hbel.block b (by omega))) hlt
      obtain ⟨y, b', off', A2, n2, c2, hy, rfl, hb', vf0, vf1, vc0, vc1⟩ := rRow_get (HL.out.2.keep (w' := wr) (fun b hb => hbel.block b (by omega))) hlt
      obtain rfl : x = y := by rw [hx] at hy; injection hy
      have hBw : B ≤ wr.heap.size := Nat.le_trans hB hbel.size
      have HF := Lib.hid (And.intro uf1 vf1)
      clear hx hy uf0 uf1 vf0 vf1
      go_wp2
      refine wp_region_und (by kernel_rfl) (by kernel_rfl) ?_
      repeat (go_big_quiet_step ((first | (go_at_call 182; exact und_call _ (eqRow_c x _ _ _ _ _ _ _ B (HF.out.1.und hBw _) (HF.out.2.und hBw _) (Nat.le_trans hBw (und_size _)))))))
      refine wpQuiet_nil ?_
      intro X hX
      go_wp2
      go_roundw
      case rel => exact ⟨k + 1, by omega, by go_num, below_step hbel hX⟩
      case measure => simp [intOf]; omega
    · go_wp2
      go_ret
      exact ⟨rfl, hbel⟩
set_option maxHeartbeats 1000000 in
theorem eqHead_c (x : Head) (A : Option Addr) (n c : Nat) (A' : Option Addr) (n' c' : Nat) (w : World) (B : Nat) (g0 : Mm.SlAt rRow w B x.Rows A n c) (g0' : Mm.SlAt rRow w B x.Rows A' n' c') (hB : B ≤ w.heap.size) :
    Calls Tryz.prog 115 #[.agg #[.slice A n c, .int .i64 x.Offset], .agg #[.slice A' n' c', .int .i64 x.Offset]] w fun e w' => e = .returned (.bool true) ∧ Below w.heap.size w w' := by
  have HK1 := Lib.hid ((Mm.Blk.new w 73 [.slice A n c, .int .i64 x.Offset]).alloc (.cells #[.slice A' n' c', .int .i64 x.Offset] 73))
  have HK2 := Lib.hid (Mm.Blk.new' (w.alloc (.cells #[.slice A n c, .int .i64 x.Offset] 73)) 73 [.slice A' n' c', .int .i64 x.Offset] (Mm.sz1 _ _))
  have hb0 : Below w.heap.size w ((w.alloc (.cells #[.slice A n c, .int .i64 x.Offset] 73)).alloc (.cells #[.slice A' n' c', .int .i64 x.Offset] 73)) := below_new (below_new (Below.refl _ _) _) _
  have HB0 := Lib.hid hb0
  have HG := Lib.hid (And.intro hB (And.intro g0 g0'))
  clear hB g0 g0'
  clear hb0
  go_enter Tryz.func115, Tryz.ntmps115
  go_wp2_with fail
  refine (eqRowS_c x.Rows _ _ _ _ _ _ _ B (HG.out.2.1.keep fun b hb => HB0.out.block b (Nat.lt_of_lt_of_le hb HG.out.1)) (HG.out.2.2.keep fun b hb => HB0.out.block b (Nat.lt_of_lt_of_le hb HG.out.1)) (Nat.le_trans HG.out.1 HB0.out.size)).mono ?_
  rintro e w1 ⟨rfl, hb1⟩
  have HB1 := Lib.hid (below_step HB0.out hb1)
  have HK1 := Lib.hid (HK1.out.bel hb1)
  have HK2 := Lib.hid (HK2.out.bel hb1)
  have p1_1 := HK1.out.cell (i := 1) rfl
  have q1_1 := HK2.out.cell (i := 1) rfl
  clear hb1
  go_wp2
  go_ret
  exact ⟨rfl, HB1.out⟩
set_option maxHeartbeats 1000000 in
theorem eqHeadS_c (l : List Head) (A A' : Option Addr) (n n' c c' : Nat) (w : World) (B : Nat) (hl : Mm.SlAt rHead w B l A n c) (hl' : Mm.SlAt rHead w B l A' n' c') (hB : B ≤ w.heap.size) :
    Calls Tryz.prog 59 #[.slice A n c, .slice A' n' c'] w fun e w' => e = .returned (.bool true) ∧ Below w.heap.size w w' := by
  obtain rfl : n = n' := hl.1.symm.trans hl'.1
  have hn : n ≤ 9223372036854775807 := by have := hl.2.1; have := hl.2.2.1; unfold maxLen at this; omega
  have HL : Hid (Mm.SlAt rHead w B l A n c ∧ Mm.SlAt rHead w B l A' n c') := ⟨hl, hl'⟩
  clear hl hl'
  go_enter Tryz.func59, Tryz.ntmps59
  go_wp2
  go_loopw [5] (fun i wr => ∃ k : Nat, k ≤ n ∧ i = .int .i64 k ∧ Below w.heap.size w wr) (fun i _ => n - (intOf i).toNat)
  case atStart => exact ⟨0, Nat.zero_le _, rfl, Below.refl _ _⟩
  case round =>
    obtain ⟨k, hk, rfl, hbel⟩ := hrel
    rename_i wr _
    by_cases hlt : k < n
    · obtain ⟨x, b, off, A1, n1, c1, hx, rfl, hb, uf0, uf1, uc0, uc1⟩ := rHead_get (HL.out.1.keep (w' := wr) (fun b hb => hbel.block b (by omega))) hlt
      obtain ⟨y, b', off', A2, n2, c2, hy, rfl, hb', vf0, vf1, vc0, vc1⟩ := rHead_get (HL.out.2.keep (w' := wr) (fun b hb => hbel.block b (by omega))) hlt
      obtain rfl : x = y := by rw [hx] at hy; injection hy
      have hBw : B ≤ wr.heap.size := Nat.le_trans hB hbel.size
      have HF := Lib.hid (And.intro uf0 vf0)
      clear hx hy uf0 uf1 vf0 vf1
      go_wp2
      refine wp_region_und (by kernel_rfl) (by kernel_rfl) ?_
      repeat (go_big_quiet_step ((first | (go_at_call 115; exact und_call _ (eqHead_c x _ _ _ _ _ _ _ B (HF.out.1.und hBw _) (HF.out.2.und hBw _) (Nat.le_trans hBw (und_size _)))))))
      refine wpQuiet_nil ?_
      intro X hX
      go_wp2
      go_roundw
      case rel => exact ⟨k + 1, by omega, by go_num, below_step hbel hX⟩
      case measure => simp [intOf]; omega
    · go_wp2
      go_ret
      exact ⟨rfl, hbel⟩
set_option maxHeartbeats 1000000 in
theorem eqPiece_c (x : Piece) (A : Option Addr) (n c : Nat) (A' : Option Addr) (n' c' : Nat) (w : World) (B : Nat) (g0 : Mm.SlAt Mm.int w B x.Index A n c) (g0' : Mm.SlAt Mm.int w B x.Index A' n' c') (hB : B ≤ w.heap.size) :
    Calls Tryz.prog 181 #[.agg #[.int .i64 x.From, .string x.Bytes, .slice A n c], .agg #[.int .i64 x.From, .string x.Bytes, .slice A' n' c']] w fun e w' => e = .returned (.bool true) ∧ Below w.heap.size w w' := by
  have HK1 := Lib.hid ((Mm.Blk.new w 164 [.int .i64 x.From, .string x.Bytes, .slice A n c]).alloc (.cells #[.int .i64 x.From, .string x.Bytes, .slice A' n' c'] 164))
  have HK2 := Lib.hid (Mm.Blk.new' (w.alloc (.cells #[.int .i64 x.From, .string x.Bytes, .slice A n c] 164)) 164 [.int .i64 x.From, .string x.Bytes, .slice A' n' c'] (Mm.sz1 _ _))
  have hb0 : Below w.heap.size w ((w.alloc (.cells #[.int .i64 x.From, .string x.Bytes, .slice A n c] 164)).alloc (.cells #[.int .i64 x.From, .string x.Bytes, .slice A' n' c'] 164)) := below_new (below_new (Below.refl _ _) _) _
  have HB0 := Lib.hid hb0
  have HG := Lib.hid (And.intro hB (And.intro g0 g0'))
  clear hB g0 g0'
  clear hb0
  go_enter Tryz.func181, Tryz.ntmps181
  go_wp2_with fail
  refine (eqIntS_c x.Index _ _ _ _ _ _ _ B (HG.out.2.1.keep fun b hb => HB0.out.block b (Nat.lt_of_lt_of_le hb HG.out.1)) (HG.out.2.2.keep fun b hb => HB0.out.block b (Nat.lt_of_lt_of_le hb HG.out.1)) (Nat.le_trans HG.out.1 HB0.out.size)).mono ?_
  rintro e w1 ⟨rfl, hb1⟩
  have HB1 := Lib.hid (below_step HB0.out hb1)
  have HK1 := Lib.hid (HK1.out.bel hb1)
  have HK2 := Lib.hid (HK2.out.bel hb1)
  clear hb1
  go_wp2
  go_ret
  exact ⟨rfl, HB1.out⟩
set_option maxHeartbeats 1000000 in
theorem eqPieceS_c (l : List Piece) (A A' : Option Addr) (n n' c c' : Nat) (w : World) (B : Nat) (hl : Mm.SlAt rPiece w B l A n c) (hl' : Mm.SlAt rPiece w B l A' n' c') (hB : B ≤ w.heap.size) :
    Calls Tryz.prog 156 #[.slice A n c, .slice A' n' c'] w fun e w' => e = .returned (.bool true) ∧ Below w.heap.size w w' := by
  obtain rfl : n = n' := hl.1.symm.trans hl'.1
  have hn : n ≤ 9223372036854775807 := by have := hl.2.1; have := hl.2.2.1; unfold maxLen at this; omega
  have HL : Hid (Mm.SlAt rPiece w B l A n c ∧ Mm.SlAt rPiece w B l A' n c') := ⟨hl, hl'⟩
  clear hl hl'
  go_enter Tryz.func156, Tryz.ntmps156
  go_wp2
  go_loopw [5] (fun i wr => ∃ k : Nat, k ≤ n ∧ i = .int .i64 k ∧ Below w.heap.size w wr) (fun i _ => n - (intOf i).toNat)
  case atStart => exact ⟨0, Nat.zero_le _, rfl, Below.refl _ _⟩
  case round =>
    obtain ⟨k, hk, rfl, hbel⟩ := hrel
    rename_i wr _
    by_cases hlt : k < n
    · obtain ⟨x, b, off, A1, n1, c1, hx, rfl, hb, uf0, uf1, uf2, uc0, uc1, uc2⟩ := rPiece_get (HL.out.1.keep (w' := wr) (fun b hb => hbel.block b (by omega))) hlt
      obtain ⟨y, b', off', A2, n2, c2, hy, rfl, hb', vf0, vf1, vf2, vc0, vc1, vc2⟩ := rPiece_get (HL.out.2.keep (w' := wr) (fun b hb => hbel.block b (by omega))) hlt
      obtain rfl : x = y := by rw [hx] at hy; injection hy
      have hBw : B ≤ wr.heap.size := Nat.le_trans hB hbel.size
      have HF := Lib.hid (And.intro uf2 vf2)
      clear hx hy uf0 uf1 uf2 vf0 vf1 vf2
      go_wp2
      refine wp_region_und (by kernel_rfl) (by kernel_rfl) ?_
      repeat (go_big_quiet_step ((first | (go_at_call 181; exact und_call _ (eqPiece_c x _ _ _ _ _ _ _ B (HF.out.1.und hBw _) (HF.out.2.und hBw _) (Nat.le_trans hBw (und_size _)))))))
      refine wpQuiet_nil ?_
      intro X hX
      go_wp2
      go_roundw
      case rel => exact ⟨k + 1, by omega, by go_num, below_step hbel hX⟩
      case measure => simp [intOf]; omega
    · go_wp2
      go_ret
      exact ⟨rfl, hbel⟩
set_option maxHeartbeats 1000000 in
theorem eqLog_c (x : Log) (A : Option Addr) (n c : Nat) (A' : Option Addr) (n' c' : Nat) (w : World) (B : Nat) (g0 : Mm.SlAt rPiece w B x.Pieces A n c) (g0' : Mm.SlAt rPiece w B x.Pieces A' n' c') (hB : B ≤ w.heap.size) :
    Calls Tryz.prog 114 #[.agg #[.slice A n c, .int .i64 x.Begin], .agg #[.slice A' n' c', .int .i64 x.Begin]] w fun e w' => e = .returned (.bool true) ∧ Below w.heap.size w w' := by
  have HK1 := Lib.hid ((Mm.Blk.new w 80 [.slice A n c, .int .i64 x.Begin]).alloc (.cells #[.slice A' n' c', .int .i64 x.Begin] 80))
  have HK2 := Lib.hid (Mm.Blk.new' (w.alloc (.cells #[.slice A n c, .int .i64 x.Begin] 80)) 80 [.slice A' n' c', .int .i64 x.Begin] (Mm.sz1 _ _))
  have hb0 : Below w.heap.size w ((w.alloc (.cells #[.slice A n c, .int .i64 x.Begin] 80)).alloc (.cells #[.slice A' n' c', .int .i64 x.Begin] 80)) := below_new (below_new (Below.refl _ _) _) _
  have HB0 := Lib.hid hb0
  have HG := Lib.hid (And.intro hB (And.intro g0 g0'))
  clear hB g0 g0'
  clear hb0
  go_enter Tryz.func114, Tryz.ntmps114
  go_wp2_with fail
  refine (eqPieceS_c x.Pieces _ _ _ _ _ _ _ B (HG.out.2.1.keep fun b hb => HB0.out.block b (Nat.lt_of_lt_of_le hb HG.out.1)) (HG.out.2.2.keep fun b hb => HB0.out.block b (Nat.lt_of_lt_of_le hb HG.out.1)) (Nat.le_trans HG.out.1 HB0.out.size)).mono ?_
  rintro e w1 ⟨rfl, hb1⟩
  have HB1 := Lib.hid (below_step HB0.out hb1)
  have HK1 := Lib.hid (HK1.out.bel hb1)
  have HK2 := Lib.hid (HK2.out.bel hb1)
  have p1_1 := HK1.out.cell (i := 1) rfl
  have q1_1 := HK2.out.cell (i := 1) rfl
  clear hb1
  go_wp2
  go_ret
  exact ⟨rfl, HB1.out⟩
set_option maxHeartbeats 1000000 in
theorem eqLogS_c (l : List Log) (A A' : Option Addr) (n n' c c' : Nat) (w : World) (B : Nat) (hl : Mm.SlAt rLog w B l A n c) (hl' : Mm.SlAt rLog w B l A' n' c') (hB : B ≤ w.heap.size) :
    Calls Tryz.prog 58 #[.slice A n c, .slice A' n' c'] w fun e w' => e = .returned (.bool true) ∧ Below w.heap.size w w' := by
  obtain rfl : n = n' := hl.1.symm.trans hl'.1
  have hn : n ≤ 9223372036854775807 := by have := hl.2.1; have := hl.2.2.1; unfold maxLen at this; omega
  have HL : Hid (Mm.SlAt rLog w B l A n c ∧ Mm.SlAt rLog w B l A' n c') := ⟨hl, hl'⟩
  clear hl hl'
  go_enter Tryz.func58, Tryz.ntmps58
  go_wp2
  go_loopw [5] (fun i wr => ∃ k : Nat, k ≤ n ∧ i = .int .i64 k ∧ Below w.heap.size w wr) (fun i _ => n - (intOf i).toNat)
  case atStart => exact ⟨0, Nat.zero_le _, rfl, Below.refl _ _⟩
  case round =>
    obtain ⟨k, hk, rfl, hbel⟩ := hrel
    rename_i wr _
    by_cases hlt : k < n
    · obtain ⟨x, b, off, A1, n1, c1, hx, rfl, hb, uf0, uf1, uc0, uc1⟩ := rLog_get (HL.out.1.keep (w' := wr) (fun b hb => hbel.block b (by omega))) hlt
      obtain ⟨y, b', off', A2, n2, c2, hy, rfl, hb', vf0, vf1, vc0, vc1⟩ := rLog_get (HL.out.2.keep (w' := wr) (fun b hb => hbel.block b (by omega))) hlt
      obtain rfl : x = y := by rw [hx] at hy; injection hy
      have hBw : B ≤ wr.heap.size := Nat.le_trans hB hbel.size
      have HF := Lib.hid (And.intro uf0 vf0)
      clear hx hy uf0 uf1 vf0 vf1
      go_wp2
      refine wp_region_und (by kernel_rfl) (by kernel_rfl) ?_
      repeat (go_big_quiet_step ((first | (go_at_call 114; exact und_call _ (eqLog_c x _ _ _ _ _ _ _ B (HF.out.1.und hBw _) (HF.out.2.und hBw _) (Nat.le_trans hBw (und_size _)))))))
      refine wpQuiet_nil ?_
      intro X hX
      go_wp2
      go_roundw
      case rel => exact ⟨k + 1, by omega, by go_num, below_step hbel hX⟩
      case measure => simp [intOf]; omega
    · go_wp2
      go_ret
      exact ⟨rfl, hbel⟩
set_option maxHeartbeats 1000000 in
theorem eqHouse_c (x : House) (A0 : Option Addr) (n0 c0 : Nat) (A1 : Option Addr) (n1 c1 : Nat) (A2 : Option Addr) (n2 c2 : Nat) (A0' : Option Addr) (n0' c0' : Nat) (A1' : Option Addr) (n1' c1' : Nat) (A2' : Option Addr) (n2' c2' : Nat) (w : World) (B : Nat) (g0 : Mm.SlAt rLog w B x.Logs A0 n0 c0) (g0' : Mm.SlAt rLog w B x.Logs A0' n0' c0') (g1 : Mm.SlAt rHead w B x.Heads A1 n1 c1) (g1' : Mm.SlAt rHead w B x.Heads A1' n1' c1') (g2 : Mm.SlAt rHead w B x.Kept A2 n2 c2) (g2' : Mm.SlAt rHead w B x.Kept A2' n2' c2') (hB : B ≤ w.heap.size) :
    Calls Tryz.prog 14 #[.agg #[.slice A0 n0 c0, .slice A1 n1 c1, .slice A2 n2 c2], .agg #[.slice A0' n0' c0', .slice A1' n1' c1', .slice A2' n2' c2']] w fun e w' => e = .returned (.bool true) ∧ Below w.heap.size w w' := by
  have HK1 := Lib.hid ((Mm.Blk.new w 27 [.slice A0 n0 c0, .slice A1 n1 c1, .slice A2 n2 c2]).alloc (.cells #[.slice A0' n0' c0', .slice A1' n1' c1', .slice A2' n2' c2'] 27))
  have HK2 := Lib.hid (Mm.Blk.new' (w.alloc (.cells #[.slice A0 n0 c0, .slice A1 n1 c1, .slice A2 n2 c2] 27)) 27 [.slice A0' n0' c0', .slice A1' n1' c1', .slice A2' n2' c2'] (Mm.sz1 _ _))
  have hb0 : Below w.heap.size w ((w.alloc (.cells #[.slice A0 n0 c0, .slice A1 n1 c1, .slice A2 n2 c2] 27)).alloc (.cells #[.slice A0' n0' c0', .slice A1' n1' c1', .slice A2' n2' c2'] 27)) := below_new (below_new (Below.refl _ _) _) _
  have HB0 := Lib.hid hb0
  have HG := Lib.hid (And.intro hB (And.intro (And.intro g0 g0') (And.intro (And.intro g1 g1') (And.intro g2 g2'))))
  clear hB g0 g0' g1 g1' g2 g2'
  clear hb0
  go_enter Tryz.func14, Tryz.ntmps14
  go_wp2_with fail
  refine (eqLogS_c x.Logs _ _ _ _ _ _ _ B (HG.out.2.1.1.keep fun b hb => HB0.out.block b (Nat.lt_of_lt_of_le hb HG.out.1)) (HG.out.2.1.2.keep fun b hb => HB0.out.block b (Nat.lt_of_lt_of_le hb HG.out.1)) (Nat.le_trans HG.out.1 HB0.out.size)).mono ?_
  rintro e w1 ⟨rfl, hb1⟩
  have HB1 := Lib.hid (below_step HB0.out hb1)
  have HK1 := Lib.hid (HK1.out.bel hb1)
  have HK2 := Lib.hid (HK2.out.bel hb1)
  have p1_1 := HK1.out.cell (i := 1) rfl
  have q1_1 := HK2.out.cell (i := 1) rfl
  have p1_2 := HK1.out.cell (i := 2) rfl
  have q1_2 := HK2.out.cell (i := 2) rfl
  clear hb1
  go_wp2_with fail
  refine (eqHeadS_c x.Heads _ _ _ _ _ _ _ B (HG.out.2.2.1.1.keep fun b hb => HB1.out.block b (Nat.lt_of_lt_of_le hb HG.out.1)) (HG.out.2.2.1.2.keep fun b hb => HB1.out.block b (Nat.lt_of_lt_of_le hb HG.out.1)) (Nat.le_trans HG.out.1 HB1.out.size)).mono ?_
  rintro e w2 ⟨rfl, hb2⟩
  have HB2 := Lib.hid (below_step HB1.out hb2)
  have HK1 := Lib.hid (HK1.out.bel hb2)
  have HK2 := Lib.hid (HK2.out.bel hb2)
  have p2_2 := HK1.out.cell (i := 2) rfl
  have q2_2 := HK2.out.cell (i := 2) rfl
  clear hb2
  go_wp2_with fail
  refine (eqHeadS_c x.Kept _ _ _ _ _ _ _ B (HG.out.2.2.2.1.keep fun b hb => HB2.out.block b (Nat.lt_of_lt_of_le hb HG.out.1)) (HG.out.2.2.2.2.keep fun b hb => HB2.out.block b (Nat.lt_of_lt_of_le hb HG.out.1)) (Nat.le_trans HG.out.1 HB2.out.size)).mono ?_
  rintro e w3 ⟨rfl, hb3⟩
  have HB3 := Lib.hid (below_step HB2.out hb3)
  have HK1 := Lib.hid (HK1.out.bel hb3)
  have HK2 := Lib.hid (HK2.out.bel hb3)
  clear hb3
  go_wp2
  go_ret
  exact ⟨rfl, HB3.out⟩
theorem eqHouse_at (x : House) (cs cs' : List Value) (w : World) (B : Nat) (h : rHouse.at_ w B x cs) (h' : rHouse.at_ w B x cs') (hB : B ≤ w.heap.size) :
    Calls Tryz.prog 14 #[.agg cs.toArray, .agg cs'.toArray] w fun e w' => e = .returned (.bool true) ∧ Below w.heap.size w w' := by
  obtain ⟨A0, n0, c0, A1, n1, c1, A2, n2, c2, rfl, g0, g1, g2⟩ := rHouse_at h
  obtain ⟨A0', n0', c0', A1', n1', c1', A2', n2', c2', rfl, k0, k1, k2⟩ := rHouse_at h'
  exact eqHouse_c x _ _ _ _ _ _ _ _ _ _ _ _ _ _ _ _ _ _ _ B g0 k0 g1 k1 g2 k2 hB
end Go.Proofs.YtbhmdnjammnlnaaGreatDoor

/-
  The laws' own sizes of arguments. No conditions.
-/
namespace Go.Proofs.YtbhmdnjammnlnaaGreatDoor
open Go.RowKit
attribute [local go_sem] und_cell
set_option maxHeartbeats 1000000 in
theorem szIntS_c (l : List Int) (A : Option Addr) (n c : Nat) (left : Int) (w : World) (B : Nat) (hl : Mm.SlAt Mm.int w B l A n c) (_hB : B ≤ w.heap.size) (h0 : 0 ≤ left) (h1 : left ≤ 1048576) :
    Calls Tryz.prog 200 #[.slice A n c, .int .i64 left] w fun e w' => e = .returned (.int .i64 (Pl.szRet left (Pl.szl Pl.sz0 l))) ∧ Below w.heap.size w w' := by
  have hn : n ≤ 9223372036854775807 := by have := hl.2.1; have := hl.2.2.1; unfold maxLen at this; omega
  have hlen : Hid (l.length = n) := hl.1
  have HZ : Hid (Pl.szl Pl.sz0 l = (n : Int)) := by show _ = _; rw [Pl.szl_zero, hlen.out]
  clear hl
  by_cases h : left - (n : Int) < 0
  · go_enter Tryz.func200, Tryz.ntmps200
    go_wp2
    go_ret
    exact ⟨ret_int (by rw [HZ.out, Pl.szRet_lt (by omega)]), Below.refl _ _⟩
  · go_enter Tryz.func200, Tryz.ntmps200
    go_wp2
    go_ret
    exact ⟨ret_int (by rw [HZ.out, Pl.szRet_ge (by omega)]), Below.refl _ _⟩
set_option maxHeartbeats 1000000 in
theorem szSampleS_c (l : List Sample) (A : Option Addr) (n c : Nat) (left : Int) (w : World) (B : Nat) (hl : Mm.SlAt smp w B l A n c) (hB : B ≤ w.heap.size) (h0 : 0 ≤ left) (h1 : left ≤ 1048576) :
    Calls Tryz.prog 201 #[.slice A n c, .int .i64 left] w fun e w' => e = .returned (.int .i64 (Pl.szRet left (Pl.szl Pl.sz0 l))) ∧ Below w.heap.size w w' := by
  have hn : n ≤ 9223372036854775807 := by have := hl.2.1; have := hl.2.2.1; unfold maxLen at this; omega
  have hlen : Hid (l.length = n) := hl.1
  have HZ : Hid (Pl.szl Pl.sz0 l = (n : Int)) := by show _ = _; rw [Pl.szl_zero, hlen.out]
  clear hl
  by_cases h : left - (n : Int) < 0
  · go_enter Tryz.func201, Tryz.ntmps201
    go_wp2
    go_ret
    exact ⟨ret_int (by rw [HZ.out, Pl.szRet_lt (by omega)]), Below.refl _ _⟩
  · go_enter Tryz.func201, Tryz.ntmps201
    go_wp2
    go_ret
    exact ⟨ret_int (by rw [HZ.out, Pl.szRet_ge (by omega)]), Below.refl _ _⟩
set_option maxHeartbeats 1000000 in
theorem szRow_c (x : Row) (A : Option Addr) (n c : Nat) (left : Int) (w : World) (B : Nat) (g0 : Mm.SlAt smp w B x.Samples A n c) (s0 : x.Name.size ≤ maxLen) (hB : B ≤ w.heap.size) (h0 : 0 ≤ left) (h1 : left ≤ 1048576) :
    Calls Tryz.prog 184 #[.agg #[.string x.Name, .slice A n c], .int .i64 left] w fun e w' => e = .returned (.int .i64 (Pl.szRet left (Pl.szRow x))) ∧ Below w.heap.size w w' := by
  unfold maxLen at s0
  have HK := Lib.hid (Mm.Blk.new w 221 [.string x.Name, .slice A n c])
  have hb0 : Below w.heap.size w (w.alloc (.cells #[.string x.Name, .slice A n c] 221)) := below_new (Below.refl _ _) _
  have HB0 := Lib.hid hb0
  clear hb0
  have HG := Lib.hid (And.intro hB g0)
  clear g0
  have zn0 := Pl.szStr_nn x.Name
  have e0 : Pl.szStr x.Name = (x.Name.size : Int) := rfl
  have zn1 := Pl.szl_nn (f := Pl.sz0) (Pl.sz0_nn) x.Samples
  have hz : Pl.szRow x = Pl.szStr x.Name + (Pl.szl Pl.sz0) x.Samples := rfl
  have HZ := Lib.hid hz
  clear hz
  have E0 := Lib.hid e0
  clear e0
  by_cases t0 : left - Pl.szStr x.Name < 0
  · have t0' := t0
    rw [E0.out] at t0'
    go_enter Tryz.func184, Tryz.ntmps184
    go_wp2
    go_ret
    exact ⟨ret_int (by rw [HZ.out, Pl.szRet_lt (by omega)]), HB0.out⟩
  · skip
    by_cases t1 : left - Pl.szStr x.Name - (Pl.szl Pl.sz0) x.Samples < 0
    · have t0' := t0
      rw [E0.out] at t0'
      have t1' := t1
      rw [E0.out] at t1'
      go_enter Tryz.func184, Tryz.ntmps184
      go_wp2_with fail
      refine (szSampleS_c x.Samples _ _ _ _ _ B (HG.out.2.keep fun b hb => HB0.out.block b (Nat.lt_of_lt_of_le hb HG.out.1)) (Nat.le_trans HG.out.1 HB0.out.size) (by omega) (by omega)).mono ?_
      rintro e w1 ⟨rfl, hb1⟩
      rw [Pl.szRet_lt (by omega)]
      have HB1 := Lib.hid (below_step HB0.out hb1)
      have HK := Lib.hid (HK.out.bel hb1)
      clear hb1
      go_wp2
      go_ret
      exact ⟨ret_int (by rw [HZ.out, Pl.szRet_lt (by omega)]), HB1.out⟩
    · have t0' := t0
      rw [E0.out] at t0'
      have t1' := t1
      rw [E0.out] at t1'
      go_enter Tryz.func184, Tryz.ntmps184
      go_wp2_with fail
      refine (szSampleS_c x.Samples _ _ _ _ _ B (HG.out.2.keep fun b hb => HB0.out.block b (Nat.lt_of_lt_of_le hb HG.out.1)) (Nat.le_trans HG.out.1 HB0.out.size) (by omega) (by omega)).mono ?_
      rintro e w1 ⟨rfl, hb1⟩
      rw [Pl.szRet_ge (by omega)]
      have HB1 := Lib.hid (below_step HB0.out hb1)
      have HK := Lib.hid (HK.out.bel hb1)
      clear hb1
      go_wp2
      go_ret
      exact ⟨ret_int (by have hh : Pl.szRet left (Pl.szRow x) = left - Pl.szRow x := Pl.szRet_ge (by rw [HZ.out]; omega); have h2 := HZ.out; have := E0.out; omega), HB1.out⟩
set_option maxHeartbeats 1000000 in
theorem szRowS_c (l : List Row) (A : Option Addr) (n c : Nat) (left : Int) (w : World) (B : Nat) (hl : Mm.SlAt rRow w B l A n c) (hB : B ≤ w.heap.size) (h0 : 0 ≤ left) (h1 : left ≤ 1048576) :
    Calls Tryz.prog 161 #[.slice A n c, .int .i64 left] w fun e w' => e = .returned (.int .i64 (Pl.szRet left (Pl.szl Pl.szRow l))) ∧ Below w.heap.size w w' := by
  have hn : n ≤ 9223372036854775807 := by have := hl.2.1; have := hl.2.2.1; unfold maxLen at this; omega
  have hlen : Hid (l.length = n) := hl.1
  have HL := Lib.hid hl
  have HZ : Hid (Pl.szl Pl.szRow l = (n : Int) + Pl.sumI Pl.szRow l) := by show _ = _; unfold Pl.szl; rw [hlen.out]
  have HN : Hid (∀ x : Row, 0 ≤ Pl.szRow x) := Pl.szRow_nn
  have hs0 := Pl.sumI_nn HN.out l
  clear hl
  by_cases h : left - (n : Int) < 0
  · go_enter Tryz.func161, Tryz.ntmps161
    go_wp2
    go_ret
    exact ⟨ret_int (by rw [HZ.out, Pl.szRet_lt (by omega)]), Below.refl _ _⟩
  · go_enter Tryz.func161, Tryz.ntmps161
    go_wp2
    go_loopw [1, 5] (fun lf i wr => ∃ k : Nat, k ≤ n ∧ i = .int .i64 k ∧ (∃ s : Int, 0 ≤ s ∧ s ≤ left ∧ s = left - n - Pl.sumI Pl.szRow (l.take k) ∧ lf = .int .i64 s) ∧ Below w.heap.size w wr) (fun _ i _ => n - (intOf i).toNat)
    case atStart => exact ⟨0, Nat.zero_le _, rfl, ⟨_, by omega, by omega, by simp [Pl.sumI], rfl⟩, Below.refl _ _⟩
    case round =>
      obtain ⟨k, hk, rfl, ⟨s, hs1, hs2, hs3, rfl⟩, hbel⟩ := hrel
      rename_i wr _
      have HS := Lib.hid hs3
      clear hs3
      by_cases hlt : k < n
      · obtain ⟨x, b, off, A, n, c, hx, rfl, hb, f0, f1, d0, d1⟩ := rRow_get (HL.out.keep (w' := wr) (fun b hb => hbel.block b (by omega))) hlt
        have hBw : B ≤ wr.heap.size := Nat.le_trans hB hbel.size
        have hx0 := HN.out x
        have hsn : Pl.sumI Pl.szRow (l.take (k + 1)) = Pl.sumI Pl.szRow (l.take k) + Pl.szRow x := Pl.sumI_succ hx
        have hst := Pl.sumI_take HN.out l (k + 1)
        have HA := Lib.hid (And.intro hsn hst)
        clear hsn hst hx
        have HF := Lib.hid (And.intro f1 f0)
        clear f0 f1
        by_cases hneg : s - Pl.szRow x < 0
        · go_wp2_with fail
          refine (szRow_c x _ _ _ _ _ B HF.out.1 HF.out.2 hBw (by omega) (by omega)).mono ?_
          rintro e w1 ⟨rfl, hb1⟩
          rw [Pl.szRet_lt hneg]
          go_wp2
          go_ret
          exact ⟨ret_int (by rw [HZ.out, Pl.szRet_lt (by have := HA.out.1; have := HA.out.2; have := HS.out; omega)]), below_step hbel hb1⟩
        · go_wp2_with fail
          refine (szRow_c x _ _ _ _ _ B HF.out.1 HF.out.2 hBw (by omega) (by omega)).mono ?_
          rintro e w1 ⟨rfl, hb1⟩
          rw [Pl.szRet_ge (by omega)]
          go_wp2
          go_roundw
          case rel => exact ⟨k + 1, by omega, by go_num, ⟨_, by omega, by omega, by have := HA.out.1; have := HS.out; omega, rfl⟩, below_step hbel hb1⟩
          case measure => simp [intOf]; omega
      · have HK : Hid (l.take k = l) := List.take_of_length_le (by have := hlen.out; omega)
        go_wp2
        go_ret
        exact ⟨ret_int (by have := HS.out; rw [HK.out] at this; rw [HZ.out, Pl.szRet_ge (by omega)]; omega), hbel⟩
set_option maxHeartbeats 1000000 in
theorem szHead_c (x : Head) (A : Option Addr) (n c : Nat) (left : Int) (w : World) (B : Nat) (g0 : Mm.SlAt rRow w B x.Rows A n c) (hB : B ≤ w.heap.size) (h0 : 0 ≤ left) (h1 : left ≤ 1048576) :
    Calls Tryz.prog 122 #[.agg #[.slice A n c, .int .i64 x.Offset], .int .i64 left] w fun e w' => e = .returned (.int .i64 (Pl.szRet left (Pl.szHead x))) ∧ Below w.heap.size w w' := by
  have HK := Lib.hid (Mm.Blk.new w 162 [.slice A n c, .int .i64 x.Offset])
  have hb0 : Below w.heap.size w (w.alloc (.cells #[.slice A n c, .int .i64 x.Offset] 162)) := below_new (Below.refl _ _) _
  have HB0 := Lib.hid hb0
  clear hb0
  have HG := Lib.hid (And.intro hB g0)
  clear g0
  have zn0 := Pl.szl_nn (f := Pl.szRow) (Pl.szRow_nn) x.Rows
  have hz : Pl.szHead x = (Pl.szl Pl.szRow) x.Rows := rfl
  have HZ := Lib.hid hz
  clear hz
  by_cases t0 : left - (Pl.szl Pl.szRow) x.Rows < 0
  · go_enter Tryz.func122, Tryz.ntmps122
    go_wp2_with fail
    refine (szRowS_c x.Rows _ _ _ _ _ B (HG.out.2.keep fun b hb => HB0.out.block b (Nat.lt_of_lt_of_le hb HG.out.1)) (Nat.le_trans HG.out.1 HB0.out.size) (by omega) (by omega)).mono ?_
    rintro e w1 ⟨rfl, hb1⟩
    rw [Pl.szRet_lt (by omega)]
    have HB1 := Lib.hid (below_step HB0.out hb1)
    have HK := Lib.hid (HK.out.bel hb1)
    clear hb1
    go_wp2
    go_ret
    exact ⟨ret_int (by rw [HZ.out, Pl.szRet_lt (by omega)]), HB1.out⟩
  · go_enter Tryz.func122, Tryz.ntmps122
    go_wp2_with fail
    refine (szRowS_c x.Rows _ _ _ _ _ B (HG.out.2.keep fun b hb => HB0.out.block b (Nat.lt_of_lt_of_le hb HG.out.1)) (Nat.le_trans HG.out.1 HB0.out.size) (by omega) (by omega)).mono ?_
    rintro e w1 ⟨rfl, hb1⟩
    rw [Pl.szRet_ge (by omega)]
    have HB1 := Lib.hid (below_step HB0.out hb1)
    have HK := Lib.hid (HK.out.bel hb1)
    clear hb1
    go_wp2
    go_ret
    exact ⟨ret_int (by have hh : Pl.szRet left (Pl.szHead x) = left - Pl.szHead x := Pl.szRet_ge (by rw [HZ.out]; omega); have h2 := HZ.out; omega), HB1.out⟩
set_option maxHeartbeats 1000000 in
theorem szHeadS_c (l : List Head) (A : Option Addr) (n c : Nat) (left : Int) (w : World) (B : Nat) (hl : Mm.SlAt rHead w B l A n c) (hB : B ≤ w.heap.size) (h0 : 0 ≤ left) (h1 : left ≤ 1048576) :
    Calls Tryz.prog 67 #[.slice A n c, .int .i64 left] w fun e w' => e = .returned (.int .i64 (Pl.szRet left (Pl.szl Pl.szHead l))) ∧ Below w.heap.size w w' := by
  have hn : n ≤ 9223372036854775807 := by have := hl.2.1; have := hl.2.2.1; unfold maxLen at this; omega
  have hlen : Hid (l.length = n) := hl.1
  have HL := Lib.hid hl
  have HZ : Hid (Pl.szl Pl.szHead l = (n : Int) + Pl.sumI Pl.szHead l) := by show _ = _; unfold Pl.szl; rw [hlen.out]
  have HN : Hid (∀ x : Head, 0 ≤ Pl.szHead x) := Pl.szHead_nn
  have hs0 := Pl.sumI_nn HN.out l
  clear hl
  by_cases h : left - (n : Int) < 0
  · go_enter Tryz.func67, Tryz.ntmps67
    go_wp2
    go_ret
    exact ⟨ret_int (by rw [HZ.out, Pl.szRet_lt (by omega)]), Below.refl _ _⟩
  · go_enter Tryz.func67, Tryz.ntmps67
    go_wp2
    go_loopw [1, 5] (fun lf i wr => ∃ k : Nat, k ≤ n ∧ i = .int .i64 k ∧ (∃ s : Int, 0 ≤ s ∧ s ≤ left ∧ s = left - n - Pl.sumI Pl.szHead (l.take k) ∧ lf = .int .i64 s) ∧ Below w.heap.size w wr) (fun _ i _ => n - (intOf i).toNat)
    case atStart => exact ⟨0, Nat.zero_le _, rfl, ⟨_, by omega, by omega, by simp [Pl.sumI], rfl⟩, Below.refl _ _⟩
    case round =>
      obtain ⟨k, hk, rfl, ⟨s, hs1, hs2, hs3, rfl⟩, hbel⟩ := hrel
      rename_i wr _
      have HS := Lib.hid hs3
      clear hs3
      by_cases hlt : k < n
      · obtain ⟨x, b, off, A, n, c, hx, rfl, hb, f0, f1, d0, d1⟩ := rHead_get (HL.out.keep (w' := wr) (fun b hb => hbel.block b (by omega))) hlt
        have hBw : B ≤ wr.heap.size := Nat.le_trans hB hbel.size
        have hx0 := HN.out x
        have hsn : Pl.sumI Pl.szHead (l.take (k + 1)) = Pl.sumI Pl.szHead (l.take k) + Pl.szHead x := Pl.sumI_succ hx
        have hst := Pl.sumI_take HN.out l (k + 1)
        have HA := Lib.hid (And.intro hsn hst)
        clear hsn hst hx
        have HF := Lib.hid f0
        clear f0 f1
        by_cases hneg : s - Pl.szHead x < 0
        · go_wp2_with fail
          refine (szHead_c x _ _ _ _ _ B HF.out hBw (by omega) (by omega)).mono ?_
          rintro e w1 ⟨rfl, hb1⟩
          rw [Pl.szRet_lt hneg]
          go_wp2
          go_ret
          exact ⟨ret_int (by rw [HZ.out, Pl.szRet_lt (by have := HA.out.1; have := HA.out.2; have := HS.out; omega)]), below_step hbel hb1⟩
        · go_wp2_with fail
          refine (szHead_c x _ _ _ _ _ B HF.out hBw (by omega) (by omega)).mono ?_
          rintro e w1 ⟨rfl, hb1⟩
          rw [Pl.szRet_ge (by omega)]
          go_wp2
          go_roundw
          case rel => exact ⟨k + 1, by omega, by go_num, ⟨_, by omega, by omega, by have := HA.out.1; have := HS.out; omega, rfl⟩, below_step hbel hb1⟩
          case measure => simp [intOf]; omega
      · have HK : Hid (l.take k = l) := List.take_of_length_le (by have := hlen.out; omega)
        go_wp2
        go_ret
        exact ⟨ret_int (by have := HS.out; rw [HK.out] at this; rw [HZ.out, Pl.szRet_ge (by omega)]; omega), hbel⟩
set_option maxHeartbeats 1000000 in
theorem szPiece_c (x : Piece) (A : Option Addr) (n c : Nat) (left : Int) (w : World) (B : Nat) (g0 : Mm.SlAt Mm.int w B x.Index A n c) (s0 : x.Bytes.size ≤ maxLen) (hB : B ≤ w.heap.size) (h0 : 0 ≤ left) (h1 : left ≤ 1048576) :
    Calls Tryz.prog 183 #[.agg #[.int .i64 x.From, .string x.Bytes, .slice A n c], .int .i64 left] w fun e w' => e = .returned (.int .i64 (Pl.szRet left (Pl.szPiece x))) ∧ Below w.heap.size w w' := by
  unfold maxLen at s0
  have HK := Lib.hid (Mm.Blk.new w 217 [.int .i64 x.From, .string x.Bytes, .slice A n c])
  have hb0 : Below w.heap.size w (w.alloc (.cells #[.int .i64 x.From, .string x.Bytes, .slice A n c] 217)) := below_new (Below.refl _ _) _
  have HB0 := Lib.hid hb0
  clear hb0
  have HG := Lib.hid (And.intro hB g0)
  clear g0
  have zn0 := Pl.szStr_nn x.Bytes
  have e0 : Pl.szStr x.Bytes = (x.Bytes.size : Int) := rfl
  have zn1 := Pl.szl_nn (f := Pl.sz0) (Pl.sz0_nn) x.Index
  have hz : Pl.szPiece x = Pl.szStr x.Bytes + (Pl.szl Pl.sz0) x.Index := rfl
  have HZ := Lib.hid hz
  clear hz
  have E0 := Lib.hid e0
  clear e0
  by_cases t0 : left - Pl.szStr x.Bytes < 0
  · have t0' := t0
    rw [E0.out] at t0'
    go_enter Tryz.func183, Tryz.ntmps183
    go_wp2
    go_ret
    exact ⟨ret_int (by rw [HZ.out, Pl.szRet_lt (by omega)]), HB0.out⟩
  · skip
    by_cases t1 : left - Pl.szStr x.Bytes - (Pl.szl Pl.sz0) x.Index < 0
    · have t0' := t0
      rw [E0.out] at t0'
      have t1' := t1
      rw [E0.out] at t1'
      go_enter Tryz.func183, Tryz.ntmps183
      go_wp2_with fail
      refine (szIntS_c x.Index _ _ _ _ _ B (HG.out.2.keep fun b hb => HB0.out.block b (Nat.lt_of_lt_of_le hb HG.out.1)) (Nat.le_trans HG.out.1 HB0.out.size) (by omega) (by omega)).mono ?_
      rintro e w1 ⟨rfl, hb1⟩
      rw [Pl.szRet_lt (by omega)]
      have HB1 := Lib.hid (below_step HB0.out hb1)
      have HK := Lib.hid (HK.out.bel hb1)
      clear hb1
      go_wp2
      go_ret
      exact ⟨ret_int (by rw [HZ.out, Pl.szRet_lt (by omega)]), HB1.out⟩
    · have t0' := t0
      rw [E0.out] at t0'
      have t1' := t1
      rw [E0.out] at t1'
      go_enter Tryz.func183, Tryz.ntmps183
      go_wp2_with fail
      refine (szIntS_c x.Index _ _ _ _ _ B (HG.out.2.keep fun b hb => HB0.out.block b (Nat.lt_of_lt_of_le hb HG.out.1)) (Nat.le_trans HG.out.1 HB0.out.size) (by omega) (by omega)).mono ?_
      rintro e w1 ⟨rfl, hb1⟩
      rw [Pl.szRet_ge (by omega)]
      have HB1 := Lib.hid (below_step HB0.out hb1)
      have HK := Lib.hid (HK.out.bel hb1)
      clear hb1
      go_wp2
      go_ret
      exact ⟨ret_int (by have hh : Pl.szRet left (Pl.szPiece x) = left - Pl.szPiece x := Pl.szRet_ge (by rw [HZ.out]; omega); have h2 := HZ.out; have := E0.out; omega), HB1.out⟩
set_option maxHeartbeats 1000000 in
theorem szPieceS_c (l : List Piece) (A : Option Addr) (n c : Nat) (left : Int) (w : World) (B : Nat) (hl : Mm.SlAt rPiece w B l A n c) (hB : B ≤ w.heap.size) (h0 : 0 ≤ left) (h1 : left ≤ 1048576) :
    Calls Tryz.prog 160 #[.slice A n c, .int .i64 left] w fun e w' => e = .returned (.int .i64 (Pl.szRet left (Pl.szl Pl.szPiece l))) ∧ Below w.heap.size w w' := by
  have hn : n ≤ 9223372036854775807 := by have := hl.2.1; have := hl.2.2.1; unfold maxLen at this; omega
  have hlen : Hid (l.length = n) := hl.1
  have HL := Lib.hid hl
  have HZ : Hid (Pl.szl Pl.szPiece l = (n : Int) + Pl.sumI Pl.szPiece l) := by show _ = _; unfold Pl.szl; rw [hlen.out]
  have HN : Hid (∀ x : Piece, 0 ≤ Pl.szPiece x) := Pl.szPiece_nn
  have hs0 := Pl.sumI_nn HN.out l
  clear hl
  by_cases h : left - (n : Int) < 0
  · go_enter Tryz.func160, Tryz.ntmps160
    go_wp2
    go_ret
    exact ⟨ret_int (by rw [HZ.out, Pl.szRet_lt (by omega)]), Below.refl _ _⟩
  · go_enter Tryz.func160, Tryz.ntmps160
    go_wp2
    go_loopw [1, 5] (fun lf i wr => ∃ k : Nat, k ≤ n ∧ i = .int .i64 k ∧ (∃ s : Int, 0 ≤ s ∧ s ≤ left ∧ s = left - n - Pl.sumI Pl.szPiece (l.take k) ∧ lf = .int .i64 s) ∧ Below w.heap.size w wr) (fun _ i _ => n - (intOf i).toNat)
    case atStart => exact ⟨0, Nat.zero_le _, rfl, ⟨_, by omega, by omega, by simp [Pl.sumI], rfl⟩, Below.refl _ _⟩
    case round =>
      obtain ⟨k, hk, rfl, ⟨s, hs1, hs2, hs3, rfl⟩, hbel⟩ := hrel
      rename_i wr _
      have HS := Lib.hid hs3
      clear hs3
      by_cases hlt : k < n
      · obtain ⟨x, b, off, A, n, c, hx, rfl, hb, f0, f1, f2, d0, d1, d2⟩ := rPiece_get (HL.out.keep (w' := wr) (fun b hb => hbel.block b (by omega))) hlt
        have hBw : B ≤ wr.heap.size := Nat.le_trans hB hbel.size
        have hx0 := HN.out x
        have hsn : Pl.sumI Pl.szPiece (l.take (k + 1)) = Pl.sumI Pl.szPiece (l.take k) + Pl.szPiece x := Pl.sumI_succ hx
        have hst := Pl.sumI_take HN.out l (k + 1)
        have HA := Lib.hid (And.intro hsn hst)
        clear hsn hst hx
        have HF := Lib.hid (And.intro f2 f1)
        clear f0 f1 f2
        by_cases hneg : s - Pl.szPiece x < 0
        · go_wp2_with fail
          refine (szPiece_c x _ _ _ _ _ B HF.out.1 HF.out.2 hBw (by omega) (by omega)).mono ?_
          rintro e w1 ⟨rfl, hb1⟩
          rw [Pl.szRet_lt hneg]
          go_wp2
          go_ret
          exact ⟨ret_int (by rw [HZ.out, Pl.szRet_lt (by have := HA.out.1; have := HA.out.2; have := HS.out; omega)]), below_step hbel hb1⟩
        · go_wp2_with fail
          refine (szPiece_c x _ _ _ _ _ B HF.out.1 HF.out.2 hBw (by omega) (by omega)).mono ?_
          rintro e w1 ⟨rfl, hb1⟩
          rw [Pl.szRet_ge (by omega)]
          go_wp2
          go_roundw
          case rel => exact ⟨k + 1, by omega, by go_num, ⟨_, by omega, by omega, by have := HA.out.1; have := HS.out; omega, rfl⟩, below_step hbel hb1⟩
          case measure => simp [intOf]; omega
      · have HK : Hid (l.take k = l) := List.take_of_length_le (by have := hlen.out; omega)
        go_wp2
        go_ret
        exact ⟨ret_int (by have := HS.out; rw [HK.out] at this; rw [HZ.out, Pl.szRet_ge (by omega)]; omega), hbel⟩
set_option maxHeartbeats 1000000 in
theorem szLog_c (x : Log) (A : Option Addr) (n c : Nat) (left : Int) (w : World) (B : Nat) (g0 : Mm.SlAt rPiece w B x.Pieces A n c) (hB : B ≤ w.heap.size) (h0 : 0 ≤ left) (h1 : left ≤ 1048576) :
    Calls Tryz.prog 121 #[.agg #[.slice A n c, .int .i64 x.Begin], .int .i64 left] w fun e w' => e = .returned (.int .i64 (Pl.szRet left (Pl.szLog x))) ∧ Below w.heap.size w w' := by
  have HK := Lib.hid (Mm.Blk.new w 158 [.slice A n c, .int .i64 x.Begin])
  have hb0 : Below w.heap.size w (w.alloc (.cells #[.slice A n c, .int .i64 x.Begin] 158)) := below_new (Below.refl _ _) _
  have HB0 := Lib.hid hb0
  clear hb0
  have HG := Lib.hid (And.intro hB g0)
  clear g0
  have zn0 := Pl.szl_nn (f := Pl.szPiece) (Pl.szPiece_nn) x.Pieces
  have hz : Pl.szLog x = (Pl.szl Pl.szPiece) x.Pieces := rfl
  have HZ := Lib.hid hz
  clear hz
  by_cases t0 : left - (Pl.szl Pl.szPiece) x.Pieces < 0
  · go_enter Tryz.func121, Tryz.ntmps121
    go_wp2_with fail
    refine (szPieceS_c x.Pieces _ _ _ _ _ B (HG.out.2.keep fun b hb => HB0.out.block b (Nat.lt_of_lt_of_le hb HG.out.1)) (Nat.le_trans HG.out.1 HB0.out.size) (by omega) (by omega)).mono ?_
    rintro e w1 ⟨rfl, hb1⟩
    rw [Pl.szRet_lt (by omega)]
    have HB1 := Lib.hid (below_step HB0.out hb1)
    have HK := Lib.hid (HK.out.bel hb1)
    clear hb1
    go_wp2
    go_ret
    exact ⟨ret_int (by rw [HZ.out, Pl.szRet_lt (by omega)]), HB1.out⟩
  · go_enter Tryz.func121, Tryz.ntmps121
    go_wp2_with fail
    refine (szPieceS_c x.Pieces _ _ _ _ _ B (HG.out.2.keep fun b hb => HB0.out.block b (Nat.lt_of_lt_of_le hb HG.out.1)) (Nat.le_trans HG.out.1 HB0.out.size) (by omega) (by omega)).mono ?_
    rintro e w1 ⟨rfl, hb1⟩
    rw [Pl.szRet_ge (by omega)]
    have HB1 := Lib.hid (below_step HB0.out hb1)
    have HK := Lib.hid (HK.out.bel hb1)
    clear hb1
    go_wp2
    go_ret
    exact ⟨ret_int (by have hh : Pl.szRet left (Pl.szLog x) = left - Pl.szLog x := Pl.szRet_ge (by rw [HZ.out]; omega); have h2 := HZ.out; omega), HB1.out⟩
set_option maxHeartbeats 1000000 in
theorem szLogS_c (l : List Log) (A : Option Addr) (n c : Nat) (left : Int) (w : World) (B : Nat) (hl : Mm.SlAt rLog w B l A n c) (hB : B ≤ w.heap.size) (h0 : 0 ≤ left) (h1 : left ≤ 1048576) :
    Calls Tryz.prog 66 #[.slice A n c, .int .i64 left] w fun e w' => e = .returned (.int .i64 (Pl.szRet left (Pl.szl Pl.szLog l))) ∧ Below w.heap.size w w' := by
  have hn : n ≤ 9223372036854775807 := by have := hl.2.1; have := hl.2.2.1; unfold maxLen at this; omega
  have hlen : Hid (l.length = n) := hl.1
  have HL := Lib.hid hl
  have HZ : Hid (Pl.szl Pl.szLog l = (n : Int) + Pl.sumI Pl.szLog l) := by show _ = _; unfold Pl.szl; rw [hlen.out]
  have HN : Hid (∀ x : Log, 0 ≤ Pl.szLog x) := Pl.szLog_nn
  have hs0 := Pl.sumI_nn HN.out l
  clear hl
  by_cases h : left - (n : Int) < 0
  · go_enter Tryz.func66, Tryz.ntmps66
    go_wp2
    go_ret
    exact ⟨ret_int (by rw [HZ.out, Pl.szRet_lt (by omega)]), Below.refl _ _⟩
  · go_enter Tryz.func66, Tryz.ntmps66
    go_wp2
    go_loopw [1, 5] (fun lf i wr => ∃ k : Nat, k ≤ n ∧ i = .int .i64 k ∧ (∃ s : Int, 0 ≤ s ∧ s ≤ left ∧ s = left - n - Pl.sumI Pl.szLog (l.take k) ∧ lf = .int .i64 s) ∧ Below w.heap.size w wr) (fun _ i _ => n - (intOf i).toNat)
    case atStart => exact ⟨0, Nat.zero_le _, rfl, ⟨_, by omega, by omega, by simp [Pl.sumI], rfl⟩, Below.refl _ _⟩
    case round =>
      obtain ⟨k, hk, rfl, ⟨s, hs1, hs2, hs3, rfl⟩, hbel⟩ := hrel
      rename_i wr _
      have HS := Lib.hid hs3
      clear hs3
      by_cases hlt : k < n
      · obtain ⟨x, b, off, A, n, c, hx, rfl, hb, f0, f1, d0, d1⟩ := rLog_get (HL.out.keep (w' := wr) (fun b hb => hbel.block b (by omega))) hlt
        have hBw : B ≤ wr.heap.size := Nat.le_trans hB hbel.size
        have hx0 := HN.out x
        have hsn : Pl.sumI Pl.szLog (l.take (k + 1)) = Pl.sumI Pl.szLog (l.take k) + Pl.szLog x := Pl.sumI_succ hx
        have hst := Pl.sumI_take HN.out l (k + 1)
        have HA := Lib.hid (And.intro hsn hst)
        clear hsn hst hx
        have HF := Lib.hid f0
        clear f0 f1
        by_cases hneg : s - Pl.szLog x < 0
        · go_wp2_with fail
          refine (szLog_c x _ _ _ _ _ B HF.out hBw (by omega) (by omega)).mono ?_
          rintro e w1 ⟨rfl, hb1⟩
          rw [Pl.szRet_lt hneg]
          go_wp2
          go_ret
          exact ⟨ret_int (by rw [HZ.out, Pl.szRet_lt (by have := HA.out.1; have := HA.out.2; have := HS.out; omega)]), below_step hbel hb1⟩
        · go_wp2_with fail
          refine (szLog_c x _ _ _ _ _ B HF.out hBw (by omega) (by omega)).mono ?_
          rintro e w1 ⟨rfl, hb1⟩
          rw [Pl.szRet_ge (by omega)]
          go_wp2
          go_roundw
          case rel => exact ⟨k + 1, by omega, by go_num, ⟨_, by omega, by omega, by have := HA.out.1; have := HS.out; omega, rfl⟩, below_step hbel hb1⟩
          case measure => simp [intOf]; omega
      · have HK : Hid (l.take k = l) := List.take_of_length_le (by have := hlen.out; omega)
        go_wp2
        go_ret
        exact ⟨ret_int (by have := HS.out; rw [HK.out] at this; rw [HZ.out, Pl.szRet_ge (by omega)]; omega), hbel⟩
set_option maxHeartbeats 1000000 in
theorem szHouse_c (x : House) (A0 : Option Addr) (n0 c0 : Nat) (A1 : Option Addr) (n1 c1 : Nat) (A2 : Option Addr) (n2 c2 : Nat) (left : Int) (w : World) (B : Nat) (g0 : Mm.SlAt rLog w B x.Logs A0 n0 c0) (g1 : Mm.SlAt rHead w B x.Heads A1 n1 c1) (g2 : Mm.SlAt rHead w B x.Kept A2 n2 c2) (hB : B ≤ w.heap.size) (h0 : 0 ≤ left) (h1 : left ≤ 1048576) :
    Calls Tryz.prog 22 #[.agg #[.slice A0 n0 c0, .slice A1 n1 c1, .slice A2 n2 c2], .int .i64 left] w fun e w' => e = .returned (.int .i64 (Pl.szRet left (Pl.szHouse x))) ∧ Below w.heap.size w w' := by
  have HK := Lib.hid (Mm.Blk.new w 43 [.slice A0 n0 c0, .slice A1 n1 c1, .slice A2 n2 c2])
  have hb0 : Below w.heap.size w (w.alloc (.cells #[.slice A0 n0 c0, .slice A1 n1 c1, .slice A2 n2 c2] 43)) := below_new (Below.refl _ _) _
  have HB0 := Lib.hid hb0
  clear hb0
  have HG := Lib.hid (And.intro hB (And.intro g0 (And.intro g1 g2)))
  clear g0 g1 g2
  have zn0 := Pl.szl_nn (f := Pl.szLog) (Pl.szLog_nn) x.Logs
  have zn1 := Pl.szl_nn (f := Pl.szHead) (Pl.szHead_nn) x.Heads
  have zn2 := Pl.szl_nn (f := Pl.szHead) (Pl.szHead_nn) x.Kept
  have hz : Pl.szHouse x = (Pl.szl Pl.szLog) x.Logs + (Pl.szl Pl.szHead) x.Heads + (Pl.szl Pl.szHead) x.Kept := rfl
  have HZ := Lib.hid hz
  clear hz
  by_cases t0 : left - (Pl.szl Pl.szLog) x.Logs < 0
  · go_enter Tryz.func22, Tryz.ntmps22
    go_wp2_with fail
    refine (szLogS_c x.Logs _ _ _ _ _ B (HG.out.2.1.keep fun b hb => HB0.out.block b (Nat.lt_of_lt_of_le hb HG.out.1)) (Nat.le_trans HG.out.1 HB0.out.size) (by omega) (by omega)).mono ?_
    rintro e w1 ⟨rfl, hb1⟩
    rw [Pl.szRet_lt (by omega)]
    have HB1 := Lib.hid (below_step HB0.out hb1)
    have HK := Lib.hid (HK.out.bel hb1)
    have p1_1 := HK.out.cell (i := 1) rfl
    have p1_2 := HK.out.cell (i := 2) rfl
    clear hb1
    go_wp2
    go_ret
    exact ⟨ret_int (by rw [HZ.out, Pl.szRet_lt (by omega)]), HB1.out⟩
  · skip
    by_cases t1 : left - (Pl.szl Pl.szLog) x.Logs - (Pl.szl Pl.szHead) x.Heads < 0
    · go_enter Tryz.func22, Tryz.ntmps22
      go_wp2_with fail
      refine (szLogS_c x.Logs _ _ _ _ _ B (HG.out.2.1.keep fun b hb => HB0.out.block b (Nat.lt_of_lt_of_le hb HG.out.1)) (Nat.le_trans HG.out.1 HB0.out.size) (by omega) (by omega)).mono ?_
      rintro e w1 ⟨rfl, hb1⟩
      rw [Pl.szRet_ge (by omega)]
      have HB1 := Lib.hid (below_step HB0.out hb1)
      have HK := Lib.hid (HK.out.bel hb1)
      have p1_1 := HK.out.cell (i := 1) rfl
      have p1_2 := HK.out.cell (i := 2) rfl
      clear hb1
      go_wp2_with fail
      refine (szHeadS_c x.Heads _ _ _ _ _ B (HG.out.2.2.1.keep fun b hb => HB1.out.block b (Nat.lt_of_lt_of_le hb HG.out.1)) (Nat.le_trans HG.out.1 HB1.out.size) (by omega) (by omega)).mono ?_
      rintro e w2 ⟨rfl, hb2⟩
      rw [Pl.szRet_lt (by omega)]
      have HB2 := Lib.hid (below_step HB1.out hb2)
      have HK := Lib.hid (HK.out.bel hb2)
      have p2_2 := HK.out.cell (i := 2) rfl
      clear hb2
      go_wp2
      go_ret
      exact ⟨ret_int (by rw [HZ.out, Pl.szRet_lt (by omega)]), HB2.out⟩
    · skip
      by_cases t2 : left - (Pl.szl Pl.szLog) x.Logs - (Pl.szl Pl.szHead) x.Heads - (Pl.szl Pl.szHead) x.Kept < 0
      · go_enter Tryz.func22, Tryz.ntmps22
        go_wp2_with fail
        refine (szLogS_c x.Logs _ _ _ _ _ B (HG.out.2.1.keep fun b hb => HB0.out.block b (Nat.lt_of_lt_of_le hb HG.out.1)) (Nat.le_trans HG.out.1 HB0.out.size) (by omega) (by omega)).mono ?_
        rintro e w1 ⟨rfl, hb1⟩
        rw [Pl.szRet_ge (by omega)]
        have HB1 := Lib.hid (below_step HB0.out hb1)
        have HK := Lib.hid (HK.out.bel hb1)
        have p1_1 := HK.out.cell (i := 1) rfl
        have p1_2 := HK.out.cell (i := 2) rfl
        clear hb1
        go_wp2_with fail
        refine (szHeadS_c x.Heads _ _ _ _ _ B (HG.out.2.2.1.keep fun b hb => HB1.out.block b (Nat.lt_of_lt_of_le hb HG.out.1)) (Nat.le_trans HG.out.1 HB1.out.size) (by omega) (by omega)).mono ?_
        rintro e w2 ⟨rfl, hb2⟩
        rw [Pl.szRet_ge (by omega)]
        have HB2 := Lib.hid (below_step HB1.out hb2)
        have HK := Lib.hid (HK.out.bel hb2)
        have p2_2 := HK.out.cell (i := 2) rfl
        clear hb2
        go_wp2_with fail
        refine (szHeadS_c x.Kept _ _ _ _ _ B (HG.out.2.2.2.keep fun b hb => HB2.out.block b (Nat.lt_of_lt_of_le hb HG.out.1)) (Nat.le_trans HG.out.1 HB2.out.size) (by omega) (by omega)).mono ?_
        rintro e w3 ⟨rfl, hb3⟩
        rw [Pl.szRet_lt (by omega)]
        have HB3 := Lib.hid (below_step HB2.out hb3)
        have HK := Lib.hid (HK.out.bel hb3)
        clear hb3
        go_wp2
        go_ret
        exact ⟨ret_int (by rw [HZ.out, Pl.szRet_lt (by omega)]), HB3.out⟩
      · go_enter Tryz.func22, Tryz.ntmps22
        go_wp2_with fail
        refine (szLogS_c x.Logs _ _ _ _ _ B (HG.out.2.1.keep fun b hb => HB0.out.block b (Nat.lt_of_lt_of_le hb HG.out.1)) (Nat.le_trans HG.out.1 HB0.out.size) (by omega) (by omega)).mono ?_
        rintro e w1 ⟨rfl, hb1⟩
        rw [Pl.szRet_ge (by omega)]
        have HB1 := Lib.hid (below_step HB0.out hb1)
        have HK := Lib.hid (HK.out.bel hb1)
        have p1_1 := HK.out.cell (i := 1) rfl
        have p1_2 := HK.out.cell (i := 2) rfl
        clear hb1
        go_wp2_with fail
        refine (szHeadS_c x.Heads _ _ _ _ _ B (HG.out.2.2.1.keep fun b hb => HB1.out.block b (Nat.lt_of_lt_of_le hb HG.out.1)) (Nat.le_trans HG.out.1 HB1.out.size) (by omega) (by omega)).mono ?_
        rintro e w2 ⟨rfl, hb2⟩
        rw [Pl.szRet_ge (by omega)]
        have HB2 := Lib.hid (below_step HB1.out hb2)
        have HK := Lib.hid (HK.out.bel hb2)
        have p2_2 := HK.out.cell (i := 2) rfl
        clear hb2
        go_wp2_with fail
        refine (szHeadS_c x.Kept _ _ _ _ _ B (HG.out.2.2.2.keep fun b hb => HB2.out.block b (Nat.lt_of_lt_of_le hb HG.out.1)) (Nat.le_trans HG.out.1 HB2.out.size) (by omega) (by omega)).mono ?_
        rintro e w3 ⟨rfl, hb3⟩
        rw [Pl.szRet_ge (by omega)]
        have HB3 := Lib.hid (below_step HB2.out hb3)
        have HK := Lib.hid (HK.out.bel hb3)
        clear hb3
        go_wp2
        go_ret
        exact ⟨ret_int (by have hh : Pl.szRet left (Pl.szHouse x) = left - Pl.szHouse x := Pl.szRet_ge (by rw [HZ.out]; omega); have h2 := HZ.out; omega), HB3.out⟩
theorem szHouse_at (x : House) (cs : List Value) (left : Int) (w : World) (B : Nat) (h : rHouse.at_ w B x cs) (hB : B ≤ w.heap.size) (h0 : 0 ≤ left) (h1 : left ≤ 1048576) :
    Calls Tryz.prog 22 #[.agg cs.toArray, .int .i64 left] w fun e w' => e = .returned (.int .i64 (Pl.szRet left (Pl.szHouse x))) ∧ Below w.heap.size w w' := by
  obtain ⟨A0, n0, c0, A1, n1, c1, A2, n2, c2, rfl, g0, g1, g2⟩ := rHouse_at h
  exact szHouse_c x _ _ _ _ _ _ _ _ _ left _ B g0 g1 g2 hB h0 h1
end Go.Proofs.YtbhmdnjammnlnaaGreatDoor

