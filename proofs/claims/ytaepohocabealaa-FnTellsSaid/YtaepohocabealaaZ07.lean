/-
  Joined texts, in build order: Su, Pq, Sv, Sy, Dq, Dr, Nt, Pr, Ew, Po, Dw. Each part says what it proves; no conditions beyond those that a part names.
-/
import Derived.Test.YtaepohocabealaaZ01
import Derived.Test.YtaepohocabealaaZ02
import Derived.Test.YtaepohocabealaaZ03
import Derived.Test.YtaepohocabealaaZ04
import Derived.Test.YtaepohocabealaaZ05
import Derived.Test.YtaepohocabealaaZ06
import Derived.Deep.DeepCutAuto
import Derived.Deep.CutBlock
/-
  Contracts: StepTell, the reference's (chapter 10). No conditions.
-/
namespace Go.Proofs.Ytaepohocabealaa
open Go.RowKit
attribute [local go_sem] und_cell cha_cell World.cell?_alloc_some
set_option maxRecDepth 100000 in
set_option maxHeartbeats 4000000 in
theorem specStepTell_c (t : Tell) (cs : List Value) (s : TellStep) (cs2 : List Value) (w : World) (B : Nat) (ht : rTell.at_ w B t cs) (hs : rTellStep.at_ w B s cs2) (hB : B ≤ w.heap.size) :
    Calls Try.prog 19 #[.agg cs.toArray, .agg cs2.toArray] w (Mm.Ret2 rTell w (Pl.stepTell t s).1 (Pl.stepTell t s).2) := by
  obtain ⟨A0, n0, c0, A1, n1, c1, A2, n2, c2, A3, n3, c3, A4, n4, c4, rfl, -⟩ := rTell_at ht
  obtain ⟨rfl, hmi⟩ := rTellStep_at hs
  have HMI := Lib.hid hmi
  have HRT := Lib.hid ht
  clear ht hs hmi
  go_enter Try.func19, Try.ntmps19
  go_upto_region 1 with fail
  obtain ⟨ga, hga⟩ : ∃ ga, w.heap.size = ga := ⟨_, rfl⟩
  obtain ⟨gs, hgs⟩ : ∃ gs, ga + 1 = gs := ⟨_, rfl⟩
  obtain ⟨gr, hgr⟩ : ∃ gr, gs + 1 = gr := ⟨_, rfl⟩
  obtain ⟨W0, hW0⟩ : ∃ W0, ((w.alloc (.cells #[.slice A0 n0 c0, .slice A1 n1 c1, .slice A2 n2 c2, .slice A3 n3 c3, .slice A4 n4 c4] 31)).alloc (.cells #[.int .i64 s.Kind, .int .i64 s.K, .string s.Text] 46)).alloc (.cells #[.slice none 0 0, .slice none 0 0, .slice none 0 0, .slice none 0 0, .slice none 0 0] 31) = W0 := ⟨_, rfl⟩
  have HS := Lib.hid (((((Mm.SepF.start w).alloc' hga 31 [.slice A0 n0 c0, .slice A1 n1 c1, .slice A2 n2 c2, .slice A3 n3 c3, .slice A4 n4 c4]).alloc' (g := gs) (by rw [Mm.sz1, hga, hgs]) 46 [.int .i64 s.Kind, .int .i64 s.K, .string s.Text]).alloc' (g := gr) (by rw [Mm.sz2, hga]; omega) 31 zTell).atW hW0)
  rw [hW0, hga, hgs, hgr]
  have HGA := Lib.hid hga
  clear hW0 hga hgs hgr
  have HRT0 := Lib.hid (rTell.keep HRT.out (w' := W0) fun b hb => HS.out.bel0.block b (by omega))
  have HBW := Lib.hid (Nat.le_trans hB HS.out.chg.size)
  have HSR := HS
  have b0 := HSR.out.cell (k := 0) 2 rfl rfl
  have b1 := HSR.out.cell (k := 1) 2 rfl rfl
  have b2 := HSR.out.cell (k := 2) 2 rfl rfl
  have b3 := HSR.out.cell (k := 3) 2 rfl rfl
  have b4 := HSR.out.cell (k := 4) 2 rfl rfl
  have r0 := HSR.out.cell (k := 0) 0 rfl rfl
  have r1 := HSR.out.cell (k := 1) 0 rfl rfl
  have r2 := HSR.out.cell (k := 2) 0 rfl rfl
  have r3 := HSR.out.cell (k := 3) 0 rfl rfl
  have r4 := HSR.out.cell (k := 4) 0 rfl rfl
  have z0 := HSR.out.frz (k := 0) 0 rfl
  have z1 := HSR.out.frz (k := 1) 0 rfl
  have z2 := HSR.out.frz (k := 2) 0 rfl
  have z3 := HSR.out.frz (k := 3) 0 rfl
  have z4 := HSR.out.frz (k := 4) 0 rfl
  obtain ⟨gd, hgd⟩ : ∃ gd, Pl.goodTell t = gd := ⟨_, rfl⟩
  have HGD := Lib.hid hgd
  clear hgd
  have CI := GoodTell_c t _ W0 B HRT0.out HBW.out
  rw [HGD.out] at CI
  cases gd with
  | false =>
    have HF : Hid (Pl.stepTell t s = (Pl.zTe, false)) := if_neg (fun h => by rw [HGD.out] at h; cases h.1)
    go_wp2_with (go_at_call 20; refine CI.mono ?_; rintro e w1 ⟨rfl, hb1⟩; (have HSR := Lib.hid (HS.out.step hb1)); (clear b0 b1 b2 b3 b4 r0 r1 r2 r3 r4 z0 z1 z2 z3 z4); (have r0 := HSR.out.cell (k := 0) 0 rfl rfl); (have r1 := HSR.out.cell (k := 1) 0 rfl rfl); (have r2 := HSR.out.cell (k := 2) 0 rfl rfl); (have r3 := HSR.out.cell (k := 3) 0 rfl rfl); (have r4 := HSR.out.cell (k := 4) 0 rfl rfl); (have z0 := HSR.out.frz (k := 0) 0 rfl); (have z1 := HSR.out.frz (k := 1) 0 rfl); (have z2 := HSR.out.frz (k := 2) 0 rfl); (have z3 := HSR.out.frz (k := 3) 0 rfl); (have z4 := HSR.out.frz (k := 4) 0 rfl))
    rw [HF.out]
    have HSF := Lib.hid (((((HSR.out.setBlk (k := 0) 0 rfl (.slice none 0 0)).setBlk (k := 1) 0 rfl (.slice none 0 0)).setBlk (k := 2) 0 rfl (.slice none 0 0)).setBlk (k := 3) 0 rfl (.slice none 0 0)).setBlk (k := 4) 0 rfl (.slice none 0 0))
    have q0 := HSF.out.cell (k := 0) 0 rfl rfl
    have q1 := HSF.out.cell (k := 1) 0 rfl rfl
    have q2 := HSF.out.cell (k := 2) 0 rfl rfl
    have q3 := HSF.out.cell (k := 3) 0 rfl rfl
    have q4 := HSF.out.cell (k := 4) 0 rfl rfl
    exact bodyPost_ret (v := .tuple #[.agg zTell.toArray, .bool false]) (by simp [results, Try.results19, go_sem, zTell, q0, q1, q2, q3, q4]) rfl (zTe_ret2 HSF.out.bel0)
  | true =>
    have HWF := Lib.hid (Pl.good_wf HGD.out)
    obtain ⟨⟨t', is⟩, hr⟩ : ∃ r, Pl.tstep t s = r := ⟨_, rfl⟩
    have HR := Lib.hid hr
    clear hr
    have hwf' := HWF.out.step s
    rw [HR.out] at hwf'
    have HWF' := Lib.hid hwf'
    clear hwf'
    cases is with
    | false =>
      have HF : Hid (Pl.stepTell t s = (Pl.zTe, false)) := if_neg (fun h => by rw [HR.out] at h; cases h.2)
      go_wp2_with (go_at_call 20; refine CI.mono ?_; rintro e W1 ⟨rfl, hb1⟩; (have HS1 := Lib.hid (HS.out.step hb1)); (have HRT1 := Lib.hid (rTell.keep HRT0.out (w' := W1) fun b hb => hb1.block b (Nat.lt_of_lt_of_le hb HBW.out))); (have HBW1 := Lib.hid (Nat.le_trans HBW.out hb1.size)); (clear b0 b1 b2 b3 b4 r0 r1 r2 r3 r4 z0 z1 z2 z3 z4); clear hb1; (have b0 := HS1.out.cell (k := 0) 2 rfl rfl); (have b1 := HS1.out.cell (k := 1) 2 rfl rfl); (have b2 := HS1.out.cell (k := 2) 2 rfl rfl); (have b3 := HS1.out.cell (k := 3) 2 rfl rfl); (have b4 := HS1.out.cell (k := 4) 2 rfl rfl); (have s0 := HS1.out.cell (k := 0) 1 rfl rfl); (have s1 := HS1.out.cell (k := 1) 1 rfl rfl); (have s2 := HS1.out.cell (k := 2) 1 rfl rfl))
      refine Mm.wp_region_give 9 (fun i => match i with | 1 => some (gTe t) | 3 => some (gTe2 t' false) | 7 => some (Mm.gPtr 31 zTell) | 8 => some (Mm.gSto 31) | _ => none) (fun i => match i with | 3 => [1] | 8 => [7] | _ => []) (fun _ => []) (F := []) (D := fun w' => ∃ x : Und W1, w' = und W1 x) (fun X us h => Mm.sep_und h) (by kernel_rfl) (by kernel_rfl) (by kernel_rfl) (Mm.SepF.startDrew _) ?_
      repeat (refine Mm.give_det (by rfl) (by rfl) (by rfl) (fun K hK => ?_); go_big_quiet_op; refine hK _ ?_; clear hK K)
      refine Mm.give_op0 14 (by rfl) rfl (by rfl) (by rfl) (by rfl) (by rfl) gTe_in (fun others X hX => ?_) ?_
      · go_wp2_with (go_at_call 51; refine (l10Own_c t _ X B (rTell.keep HRT1.out (fun b hb => hX.bel0.block b (Nat.lt_of_lt_of_le hb HBW1.out))) (Nat.le_trans HBW1.out hX.chg.size) HWF.out.sz).mono ?_; rintro e w5 ⟨cs5, fp5, rfl, ho, hnd, hnew, hb5⟩; obtain ⟨a0, k0, a1, k1, a2, k2, a3, k3, a4, k4, rfl⟩ := own_form ho)
        exact ⟨rfl, rfl, _, ⟨a0, k0, a1, k1, a2, k2, a3, k3, a4, k4, fp5, rfl, rfl⟩, hX.add hb5 (t := Mm.tow rTell t _ _) ho hnd hnew⟩
      rintro v ds ⟨a0, k0, a1, k1, a2, k2, a3, k3, a4, k4, fp5, rfl, rfl⟩
      simp only [Act.put, List.setIfInBounds_toArray, List.set_cons_succ, List.set_cons_zero]
      repeat (refine Mm.give_det (by rfl) (by rfl) (by rfl) (fun K hK => ?_); go_big_quiet_op; refine hK _ ?_; clear hK K)
      refine Mm.give_op1 16 1 (by rfl) rfl (by rfl) (by rfl) (by rfl) rfl (by rfl) _ rfl gTe2_in (fun others X hX => ?_) ?_
      · go_wp2_with (go_at_call 50; refine (l10Step_c t s _ fp5 X (hX.at_ 0 rfl) (hX.ndat (i := 0) rfl) HMI.out.2 HWF.out).mono ?_; rintro e w6 ⟨cs6, fp6, rfl, hL⟩; rw [HR.out] at hL; rw [HR.out])
        have h9 := hX.call 0 rfl hL
        obtain ⟨a0, k0, a1, k1, a2, k2, a3, k3, a4, k4, rfl⟩ := own_form (h9.at_ 0 rfl)
        exact ⟨rfl, rfl, _, ⟨a0, k0, a1, k1, a2, k2, a3, k3, a4, k4, fp6, rfl, rfl⟩, h9⟩
      rintro v ds ⟨a0, k0, a1, k1, a2, k2, a3, k3, a4, k4, fp6, rfl, rfl⟩
      simp only [Act.put, List.setIfInBounds_toArray, List.set_cons_succ, List.set_cons_zero]
      repeat (refine Mm.give_det (by rfl) (by rfl) (by rfl) (fun K hK => ?_); go_big_quiet_op; refine hK _ ?_; clear hK K)
      refine Mm.give_op0 6 (by rfl) rfl (by rfl) (by rfl) (by rfl) (by rfl) Mm.gPtr_in (fun others X hX => ?_) ?_
      · go_wp2
        exact Mm.gvq_ptr hX rfl rfl rfl
      rintro v ds ⟨gp, rfl, rfl⟩
      simp only [Act.put, List.setIfInBounds_toArray, List.set_cons_succ, List.set_cons_zero]
      refine Mm.give_store 31 gp zTell [.slice a0 t'.Texts.length k0, .slice a1 t'.Heard.length k1, .slice a2 t'.Line.length k2, .slice a3 t'.Log.length k3, .slice a4 t'.Next.length k4] 7 (by rfl) rfl rfl (by rfl) rfl (by rfl) rfl rfl (fun others X hX => ?_) ?_
      · have HSR := Lib.hid hX
        have r0 := HSR.out.cell (k := 0) 0 rfl rfl
        have r1 := HSR.out.cell (k := 1) 0 rfl rfl
        have r2 := HSR.out.cell (k := 2) 0 rfl rfl
        have r3 := HSR.out.cell (k := 3) 0 rfl rfl
        have r4 := HSR.out.cell (k := 4) 0 rfl rfl
        have z0 := HSR.out.frz (k := 0) 0 rfl
        have z1 := HSR.out.frz (k := 1) 0 rfl
        have z2 := HSR.out.frz (k := 2) 0 rfl
        have z3 := HSR.out.frz (k := 3) 0 rfl
        have z4 := HSR.out.frz (k := 4) 0 rfl
        go_wp2
        exact ⟨rfl, rfl, _, rfl, (((((hX.setBlk (k := 0) 0 rfl (.slice a0 t'.Texts.length k0)).setBlk (k := 1) 0 rfl (.slice a1 t'.Heard.length k1)).setBlk (k := 2) 0 rfl (.slice a2 t'.Line.length k2)).setBlk (k := 3) 0 rfl (.slice a3 t'.Log.length k3)).setBlk (k := 4) 0 rfl (.slice a4 t'.Next.length k4))⟩
      refine Mm.give_nil ?_
      rintro X hX
      have HS3 := Lib.hid (HS1.out.join (us := [Mm.tow rTell t' [.slice a0 t'.Texts.length k0, .slice a1 t'.Heard.length k1, .slice a2 t'.Line.length k2, .slice a3 t'.Log.length k3, .slice a4 t'.Next.length k4] fp6, Mm.tblk gp 31 [.slice a0 t'.Texts.length k0, .slice a1 t'.Heard.length k1, .slice a2 t'.Line.length k2, .slice a3 t'.Log.length k3, .slice a4 t'.Next.length k4]]) hX)
      clear hX
      have HSR := Lib.hid (HS3.out.sel [2, 3, 4] (by decide) rfl)
      clear b0 b1 b2 b3 b4 s0 s1 s2
      have r0 := HSR.out.cell (k := 0) 0 rfl rfl
      have r1 := HSR.out.cell (k := 1) 0 rfl rfl
      have r2 := HSR.out.cell (k := 2) 0 rfl rfl
      have r3 := HSR.out.cell (k := 3) 0 rfl rfl
      have r4 := HSR.out.cell (k := 4) 0 rfl rfl
      have z0 := HSR.out.frz (k := 0) 0 rfl
      have z1 := HSR.out.frz (k := 1) 0 rfl
      have z2 := HSR.out.frz (k := 2) 0 rfl
      have z3 := HSR.out.frz (k := 3) 0 rfl
      have z4 := HSR.out.frz (k := 4) 0 rfl
      go_wp2
      rw [HF.out]
      have HSF := Lib.hid (((((HSR.out.setBlk (k := 0) 0 rfl (.slice none 0 0)).setBlk (k := 1) 0 rfl (.slice none 0 0)).setBlk (k := 2) 0 rfl (.slice none 0 0)).setBlk (k := 3) 0 rfl (.slice none 0 0)).setBlk (k := 4) 0 rfl (.slice none 0 0))
      have q0 := HSF.out.cell (k := 0) 0 rfl rfl
      have q1 := HSF.out.cell (k := 1) 0 rfl rfl
      have q2 := HSF.out.cell (k := 2) 0 rfl rfl
      have q3 := HSF.out.cell (k := 3) 0 rfl rfl
      have q4 := HSF.out.cell (k := 4) 0 rfl rfl
      exact bodyPost_ret (v := .tuple #[.agg zTell.toArray, .bool false]) (by simp [results, Try.results19, go_sem, zTell, q0, q1, q2, q3, q4]) rfl (zTe_ret2 HSF.out.bel0)
    | true =>
      have HF : Hid (Pl.stepTell t s = (t', true)) := Lib.hid (by unfold Pl.stepTell; rw [if_pos (by rw [HR.out]; exact ⟨HGD.out, rfl⟩), HR.out])
      go_wp2_with (go_at_call 20; refine CI.mono ?_; rintro e W1 ⟨rfl, hb1⟩; (have HS1 := Lib.hid (HS.out.step hb1)); (have HRT1 := Lib.hid (rTell.keep HRT0.out (w' := W1) fun b hb => hb1.block b (Nat.lt_of_lt_of_le hb HBW.out))); (have HBW1 := Lib.hid (Nat.le_trans HBW.out hb1.size)); (clear b0 b1 b2 b3 b4 r0 r1 r2 r3 r4 z0 z1 z2 z3 z4); clear hb1; (have b0 := HS1.out.cell (k := 0) 2 rfl rfl); (have b1 := HS1.out.cell (k := 1) 2 rfl rfl); (have b2 := HS1.out.cell (k := 2) 2 rfl rfl); (have b3 := HS1.out.cell (k := 3) 2 rfl rfl); (have b4 := HS1.out.cell (k := 4) 2 rfl rfl); (have s0 := HS1.out.cell (k := 0) 1 rfl rfl); (have s1 := HS1.out.cell (k := 1) 1 rfl rfl); (have s2 := HS1.out.cell (k := 2) 1 rfl rfl))
      refine Mm.wp_region_give 9 (fun i => match i with | 1 => some (gTe t) | 3 => some (gTe2 t' true) | 7 => some (Mm.gPtr 31 zTell) | 8 => some (Mm.gSto 31) | _ => none) (fun i => match i with | 3 => [1] | 8 => [7] | _ => []) (fun _ => []) (F := []) (D := fun w' => ∃ x : Und W1, w' = und W1 x) (fun X us h => Mm.sep_und h) (by kernel_rfl) (by kernel_rfl) (by kernel_rfl) (Mm.SepF.startDrew _) ?_
      repeat (refine Mm.give_det (by rfl) (by rfl) (by rfl) (fun K hK => ?_); go_big_quiet_op; refine hK _ ?_; clear hK K)
      refine Mm.give_op0 14 (by rfl) rfl (by rfl) (by rfl) (by rfl) (by rfl) gTe_in (fun others X hX => ?_) ?_
      · go_wp2_with (go_at_call 51; refine (l10Own_c t _ X B (rTell.keep HRT1.out (fun b hb => hX.bel0.block b (Nat.lt_of_lt_of_le hb HBW1.out))) (Nat.le_trans HBW1.out hX.chg.size) HWF.out.sz).mono ?_; rintro e w5 ⟨cs5, fp5, rfl, ho, hnd, hnew, hb5⟩; obtain ⟨a0, k0, a1, k1, a2, k2, a3, k3, a4, k4, rfl⟩ := own_form ho)
        exact ⟨rfl, rfl, _, ⟨a0, k0, a1, k1, a2, k2, a3, k3, a4, k4, fp5, rfl, rfl⟩, hX.add hb5 (t := Mm.tow rTell t _ _) ho hnd hnew⟩
      rintro v ds ⟨a0, k0, a1, k1, a2, k2, a3, k3, a4, k4, fp5, rfl, rfl⟩
      simp only [Act.put, List.setIfInBounds_toArray, List.set_cons_succ, List.set_cons_zero]
      repeat (refine Mm.give_det (by rfl) (by rfl) (by rfl) (fun K hK => ?_); go_big_quiet_op; refine hK _ ?_; clear hK K)
      refine Mm.give_op1 16 1 (by rfl) rfl (by rfl) (by rfl) (by rfl) rfl (by rfl) _ rfl gTe2_in (fun others X hX => ?_) ?_
      · go_wp2_with (go_at_call 50; refine (l10Step_c t s _ fp5 X (hX.at_ 0 rfl) (hX.ndat (i := 0) rfl) HMI.out.2 HWF.out).mono ?_; rintro e w6 ⟨cs6, fp6, rfl, hL⟩; rw [HR.out] at hL; rw [HR.out])
        have h9 := hX.call 0 rfl hL
        obtain ⟨a0, k0, a1, k1, a2, k2, a3, k3, a4, k4, rfl⟩ := own_form (h9.at_ 0 rfl)
        exact ⟨rfl, rfl, _, ⟨a0, k0, a1, k1, a2, k2, a3, k3, a4, k4, fp6, rfl, rfl⟩, h9⟩
      rintro v ds ⟨a0, k0, a1, k1, a2, k2, a3, k3, a4, k4, fp6, rfl, rfl⟩
      simp only [Act.put, List.setIfInBounds_toArray, List.set_cons_succ, List.set_cons_zero]
      repeat (refine Mm.give_det (by rfl) (by rfl) (by rfl) (fun K hK => ?_); go_big_quiet_op; refine hK _ ?_; clear hK K)
      refine Mm.give_op0 6 (by rfl) rfl (by rfl) (by rfl) (by rfl) (by rfl) Mm.gPtr_in (fun others X hX => ?_) ?_
      · go_wp2
        exact Mm.gvq_ptr hX rfl rfl rfl
      rintro v ds ⟨gp, rfl, rfl⟩
      simp only [Act.put, List.setIfInBounds_toArray, List.set_cons_succ, List.set_cons_zero]
      refine Mm.give_store 31 gp zTell [.slice a0 t'.Texts.length k0, .slice a1 t'.Heard.length k1, .slice a2 t'.Line.length k2, .slice a3 t'.Log.length k3, .slice a4 t'.Next.length k4] 7 (by rfl) rfl rfl (by rfl) rfl (by rfl) rfl rfl (fun others X hX => ?_) ?_
      · have HSR := Lib.hid hX
        have r0 := HSR.out.cell (k := 0) 0 rfl rfl
        have r1 := HSR.out.cell (k := 1) 0 rfl rfl
        have r2 := HSR.out.cell (k := 2) 0 rfl rfl
        have r3 := HSR.out.cell (k := 3) 0 rfl rfl
        have r4 := HSR.out.cell (k := 4) 0 rfl rfl
        have z0 := HSR.out.frz (k := 0) 0 rfl
        have z1 := HSR.out.frz (k := 1) 0 rfl
        have z2 := HSR.out.frz (k := 2) 0 rfl
        have z3 := HSR.out.frz (k := 3) 0 rfl
        have z4 := HSR.out.frz (k := 4) 0 rfl
        go_wp2
        exact ⟨rfl, rfl, _, rfl, (((((hX.setBlk (k := 0) 0 rfl (.slice a0 t'.Texts.length k0)).setBlk (k := 1) 0 rfl (.slice a1 t'.Heard.length k1)).setBlk (k := 2) 0 rfl (.slice a2 t'.Line.length k2)).setBlk (k := 3) 0 rfl (.slice a3 t'.Log.length k3)).setBlk (k := 4) 0 rfl (.slice a4 t'.Next.length k4))⟩
      refine Mm.give_nil ?_
      rintro X hX
      have HS3 := Lib.hid (HS1.out.join (us := [Mm.tow rTell t' [.slice a0 t'.Texts.length k0, .slice a1 t'.Heard.length k1, .slice a2 t'.Line.length k2, .slice a3 t'.Log.length k3, .slice a4 t'.Next.length k4] fp6, Mm.tblk gp 31 [.slice a0 t'.Texts.length k0, .slice a1 t'.Heard.length k1, .slice a2 t'.Line.length k2, .slice a3 t'.Log.length k3, .slice a4 t'.Next.length k4]]) hX)
      clear hX
      clear b0 b1 b2 b3 b4 s0 s1 s2
      have u0 := HS3.out.cell (k := 0) 1 rfl rfl
      have u1 := HS3.out.cell (k := 1) 1 rfl rfl
      have u2 := HS3.out.cell (k := 2) 1 rfl rfl
      have u3 := HS3.out.cell (k := 3) 1 rfl rfl
      have u4 := HS3.out.cell (k := 4) 1 rfl rfl
      go_wp2_with (go_at_call 51; refine (l10Own_c t' _ _ X.heap.size (HS3.out.rd 0 rfl) (Nat.le_refl _) HWF'.out.sz).mono ?_; rintro e w5 ⟨cs5, fp5, rfl, ho, hnd, hnew, hb5⟩; obtain ⟨A10, c10, A11, c11, A12, c12, A13, c13, A14, c14, rfl⟩ := own_form ho; (have HSR := Lib.hid (HS3.out.add hb5 (t := Mm.tow rTell t' _ _) ho hnd hnew)); clear ho hnd hnew hb5 u0 u1 u2 u3 u4; (have r0 := HSR.out.cell (k := 0) 3 rfl rfl); (have r1 := HSR.out.cell (k := 1) 3 rfl rfl); (have r2 := HSR.out.cell (k := 2) 3 rfl rfl); (have r3 := HSR.out.cell (k := 3) 3 rfl rfl); (have r4 := HSR.out.cell (k := 4) 3 rfl rfl); (have z0 := HSR.out.frz (k := 0) 3 rfl); (have z1 := HSR.out.frz (k := 1) 3 rfl); (have z2 := HSR.out.frz (k := 2) 3 rfl); (have z3 := HSR.out.frz (k := 3) 3 rfl); (have z4 := HSR.out.frz (k := 4) 3 rfl))
      have HSF := Lib.hid (((((HSR.out.setBlk (k := 0) 3 rfl (.slice A10 t'.Texts.length c10)).setBlk (k := 1) 3 rfl (.slice A11 t'.Heard.length c11)).setBlk (k := 2) 3 rfl (.slice A12 t'.Line.length c12)).setBlk (k := 3) 3 rfl (.slice A13 t'.Log.length c13)).setBlk (k := 4) 3 rfl (.slice A14 t'.Next.length c14))
      have q0 := HSF.out.cell (k := 0) 3 rfl rfl
      have q1 := HSF.out.cell (k := 1) 3 rfl rfl
      have q2 := HSF.out.cell (k := 2) 3 rfl rfl
      have q3 := HSF.out.cell (k := 3) 3 rfl rfl
      have q4 := HSF.out.cell (k := 4) 3 rfl rfl
      rw [HF.out]
      exact bodyPost_ret (v := .tuple #[.agg #[.slice A10 t'.Texts.length c10, .slice A11 t'.Heard.length c11, .slice A12 t'.Line.length c12, .slice A13 t'.Log.length c13, .slice A14 t'.Next.length c14], .bool true]) (by simp [results, Try.results19, go_sem, q0, q1, q2, q3, q4]) rfl (tell_ret2 HSF.out)
end Go.Proofs.Ytaepohocabealaa

/-
  Plain functions: settling a teller. No program in sight. No conditions.
-/
namespace Go.Proofs.Ytaepohocabealaa
namespace Pl
def s2 (k : Int) : TellStep := ⟨2, k, ⟨#[]⟩⟩
def s3 : TellStep := ⟨3, 0, ⟨#[]⟩⟩
def noLine (t : Tell) : Tell := { t with Line := [] }
def settleOne (t : Tell) (k : Int) : Tell := (tstep (tstep (tstep (noLine t) (s2 k)).1 s3).1 s3).1
def settleF : Nat → Tell → Int → Int → Tell × Int
  | 0, t, _, c => (t, c)
  | f + 1, t, k, c => if iAt t.Heard k < (tAt t k).length then settleF f (settleOne t k) k (c + 1) else (t, c)
def settleTo (t : Tell) : Nat → Tell × Int
  | 0 => (t, 0)
  | k + 1 => settleF 21 (settleTo t k).1 k (settleTo t k).2
def HLe (t : Tell) : Prop := ∀ (k : Nat) (a b : Int), t.Heard[k]? = some b → t.Next[k]? = some a → b ≤ a
theorem noLine_wf {t : Tell} (h : TWf t) : TWf (noLine t) := ⟨h.n4, h.heard, h.next, Nat.zero_le _, h.log, h.texts, h.nx, h.hd, fun m hm => by cases hm⟩
theorem settle_open (t : Tell) (k : Nat) (hk : k < t.Texts.length) (hl : iAt t.Heard k < (tAt t k).length) :
    settleOne t k = tback (tlog (noLine t) ⟨k, iAt t.Heard k, (tAt t k).getD (iAt t.Heard k).toNat ByteArray.empty⟩) ⟨k, iAt (tlog (noLine t) ⟨k, iAt t.Heard k, (tAt t k).getD (iAt t.Heard k).toNat ByteArray.empty⟩).Next k, ByteArray.empty⟩ := by
  obtain ⟨x, hx⟩ : ∃ x : Told, x = ⟨k, iAt t.Heard k, (tAt t k).getD (iAt t.Heard k).toNat ByteArray.empty⟩ := ⟨_, rfl⟩
  have e1 : (tstep (noLine t) (s2 k)).1 = { noLine t with Line := [⟨false, x⟩] } := by
    unfold tstep s2
    rw [if_neg (show ¬ (2 : Int) = 1 by omega), if_neg (show ¬ ((⟨#[]⟩ : ByteArray).size ≠ 0 ∨ (k : Int) < 0) by simp [ByteArray.size]), if_pos rfl]
    have hc : ((k : Int) < (noLine t).Texts.length ∧ iAt (noLine t).Heard k ≠ (tAt (noLine t) k).length) := by
      refine ⟨?_, ?_⟩
      · show (k : Int) < (t.Texts.length : Nat); omega
      · show iAt t.Heard k ≠ ((tAt t k).length : Nat); omega
    rw [if_pos hc]
    show tsend (noLine t) _ = _
    unfold tsend
    rw [if_pos (show (noLine t).Line.length < 30 by show (0 : Nat) < 30; omega), hx]
    rfl
  have e2 : (tstep { noLine t with Line := [⟨false, x⟩] } s3).1 = { tlog (noLine t) x with Line := [⟨true, ⟨x.Who, iAt (tlog (noLine t) x).Next x.Who, ByteArray.empty⟩⟩] } := by
    unfold tstep s3
    rw [if_neg (show ¬ (3 : Int) = 1 by omega), if_neg (show ¬ ((⟨#[]⟩ : ByteArray).size ≠ 0 ∨ (0 : Int) < 0) by simp [ByteArray.size]), if_neg (show ¬ (3 : Int) = 2 by omega)]
    rw [if_pos (show (3 : Int) ≤ 3 ∧ (3 : Int) ≤ 5 ∧ (0 : Int) < (([⟨false, x⟩] : List Note).length : Nat) by simp), if_neg (show ¬ (3 : Int) = 5 by omega), if_pos rfl]
    show ttake (noLine t) ⟨false, x⟩ = _
    unfold ttake
    rw [if_neg (by simp)]
    show tsend (tlog (noLine t) x) _ = _
    have hl0 : (tlog (noLine t) x).Line = [] := by unfold tlog; split <;> rfl
    unfold tsend
    rw [if_pos (by rw [hl0]; show (0 : Nat) < 30; omega), hl0]
    rfl
  have e3 : ∀ (y : Tell) (z : Told), y.Line = [] → (tstep { y with Line := [⟨true, z⟩] } s3).1 = tback y z := fun y z hy => by
    unfold tstep s3
    rw [if_neg (show ¬ (3 : Int) = 1 by omega), if_neg (show ¬ ((⟨#[]⟩ : ByteArray).size ≠ 0 ∨ (0 : Int) < 0) by simp [ByteArray.size]), if_neg (show ¬ (3 : Int) = 2 by omega)]
    rw [if_pos (show (3 : Int) ≤ 3 ∧ (3 : Int) ≤ 5 ∧ (0 : Int) < (([⟨true, z⟩] : List Note).length : Nat) by simp), if_neg (show ¬ (3 : Int) = 5 by omega), if_pos rfl]
    show ttake { y with Line := [] } ⟨true, z⟩ = _
    unfold ttake
    rw [if_pos rfl]
    have : ({ y with Line := [] } : Tell) = y := by rw [← hy]
    rw [this]
  unfold settleOne
  rw [e1, e2, e3 _ _ (by unfold tlog; split <;> rfl), hx]
theorem settle_one {t : Tell} {k : Nat} (hw : TWf t) (hh : HLe t) (hk : k < t.Texts.length) (hl : iAt t.Heard k < (tAt t k).length) :
    TWf (settleOne t k) ∧ HLe (settleOne t k) ∧ (settleOne t k).Texts = t.Texts ∧ iAt t.Heard k < iAt (settleOne t k).Heard k := by
  have hkh : k < t.Heard.length := by rw [hw.heard]; exact hk
  have hkn : k < t.Next.length := by rw [hw.next]; exact hk
  have hb := List.getElem?_eq_getElem hkh
  have ha := List.getElem?_eq_getElem hkn
  have hx := List.getElem?_eq_getElem hk
  generalize t.Heard[k] = b at hb
  generalize t.Next[k] = a at ha
  generalize t.Texts[k] = l at hx
  have eb : iAt t.Heard k = b := iAt_of (by simpa using hb)
  have ea : iAt t.Next k = a := iAt_of (by simpa using ha)
  have el : tAt t k = l := tAt_of (by simpa using hx)
  have hba := hh k a b hb ha
  have hbd := hw.hd k b l hb hx
  have han := hw.nx k a l ha hx
  rw [eb, el] at hl
  have hwf : TWf (settleOne t k) := by
    unfold settleOne
    exact (((noLine_wf hw).step _).step _).step _
  refine ⟨hwf, ?_⟩
  have ho := settle_open t k hk (by rw [eb, el]; exact hl)
  rw [ho, eb, el]
  obtain ⟨x, hxx⟩ : ∃ x : Told, x = ⟨k, b, l.getD b.toNat ByteArray.empty⟩ := ⟨_, rfl⟩
  rw [← hxx]
  have key : ∃ n', iAt (tlog (noLine t) x).Next k = n' ∧ b < n' ∧ (tlog (noLine t) x).Heard = t.Heard ∧ (tlog (noLine t) x).Texts = t.Texts ∧ (tlog (noLine t) x).Next = t.Next.set k n' := by
    unfold tlog
    by_cases he : x.No = iAt (noLine t).Next x.Who
    · rw [if_pos he]
      have h1 : iAt (noLine t).Next x.Who = a := by rw [hxx]; exact ea
      have h2 : b = a := by rw [← h1, ← he, hxx]
      refine ⟨a + 1, ?_, by omega, rfl, rfl, ?_⟩
      · show iAt (t.Next.set x.Who.toNat (iAt (noLine t).Next x.Who + 1)) k = a + 1
        rw [h1, hxx]
        apply iAt_of
        show (t.Next.set ((k : Nat) : Int).toNat (a + 1))[((k : Nat) : Int).toNat]? = _
        rw [show ((k : Nat) : Int).toNat = k by omega, List.getElem?_set_self hkn]
      · show t.Next.set x.Who.toNat (iAt (noLine t).Next x.Who + 1) = _
        rw [h1, hxx]
        rfl
    · rw [if_neg he]
      have h1 : iAt (noLine t).Next x.Who = a := by rw [hxx]; exact ea
      have h2 : ¬ b = a := fun h => he (by rw [h1, hxx]; exact h)
      refine ⟨a, ea, by omega, rfl, rfl, ?_⟩
      show t.Next = t.Next.set k a
      apply List.ext_getElem?
      intro j
      by_cases hj : k = j
      · subst hj; rw [List.getElem?_set_self hkn, ha]
      · rw [List.getElem?_set_ne hj]
  obtain ⟨n', k1, k2, k3, k4, k5⟩ := key
  have hH : (tback (tlog (noLine t) x) ⟨k, iAt (tlog (noLine t) x).Next k, ByteArray.empty⟩).Heard = t.Heard.set k n' := by
    unfold tback
    show (tlog (noLine t) x).Heard.set ((k : Nat) : Int).toNat _ = _
    rw [k1, k3]
    dsimp only
    rw [eb, if_pos k2]
    rfl
  refine ⟨fun j c d hd hc => ?_, k4, ?_⟩
  · rw [hH] at hd
    have hc' : (t.Next.set k n')[j]? = some c := by rw [← k5]; exact hc
    rcases set_some hd with ⟨rfl, rfl⟩ | ⟨hne, hd⟩
    · rw [List.getElem?_set_self hkn] at hc'
      injection hc' with hc'
      omega
    · rw [List.getElem?_set_ne hne] at hc'
      exact hh j c d hd hc'
  · rw [hH]
    have : iAt (t.Heard.set k n') k = n' := iAt_of (by rw [show ((k : Nat) : Int).toNat = k by omega, List.getElem?_set_self hkh])
    rw [this]
    exact k2
theorem good_hle {t : Tell} (h : goodTell t = true) : HLe t := by
  unfold goodTell at h
  simp only [Bool.and_eq_true, decide_eq_true_eq, List.all_eq_true] at h
  obtain ⟨⟨⟨h1, h2⟩, h3⟩, h4⟩ := h
  have hp := good_pre h1
  intro k a b hb ha
  have hk : k < t.Texts.length := by have := (List.getElem?_eq_some_iff.1 hb).1; omega
  have := h2 k (List.mem_range.2 hk)
  rw [textOk_eq (List.getElem?_eq_getElem hk) ha hb] at this
  simp only [Bool.and_eq_true, isIn_iff'] at this
  exact this.2.2
/-- what holds behind f turns -/
theorem settleF_ok {t0 : Tell} {k : Nat} : ∀ (f : Nat) (t : Tell) (c : Int), TWf t → HLe t → t.Texts = t0.Texts → k < t0.Texts.length → 0 ≤ c → TWf (settleF f t k c).1 ∧ HLe (settleF f t k c).1 ∧ (settleF f t k c).1.Texts = t0.Texts ∧ 0 ≤ (settleF f t k c).2 ∧ (settleF f t k c).2 ≤ c + f
  | 0, t, c, h1, h2, h3, _, hc => ⟨h1, h2, h3, hc, by show c ≤ c + (0 : Nat); omega⟩
  | f + 1, t, c, h1, h2, h3, hk, hc => by
    unfold settleF
    by_cases hlt : iAt t.Heard (k : Int) < ((tAt t (k : Int)).length : Nat)
    · rw [if_pos hlt]
      obtain ⟨g1, g2, g3, _⟩ := settle_one h1 h2 (by rw [h3]; exact hk) hlt
      have := settleF_ok (t0 := t0) (k := k) f (settleOne t k) (c + 1) g1 g2 (g3.trans h3) hk (by omega)
      refine ⟨this.1, this.2.1, this.2.2.1, this.2.2.2.1, by have := this.2.2.2.2; push_cast; omega⟩
    · rw [if_neg hlt]
      exact ⟨h1, h2, h3, hc, by show c ≤ c + ((f + 1 : Nat) : Int); omega⟩
theorem settleTo_ok {t : Tell} (hw : TWf t) (hh : HLe t) : ∀ k, k ≤ t.Texts.length → TWf (settleTo t k).1 ∧ HLe (settleTo t k).1 ∧ (settleTo t k).1.Texts = t.Texts ∧ 0 ≤ (settleTo t k).2 ∧ (settleTo t k).2 ≤ 21 * k
  | 0, _ => ⟨hw, hh, rfl, Int.le_refl _, Int.le_refl _⟩
  | k + 1, hk => by
    have ih := settleTo_ok hw hh k (by omega)
    have := settleF_ok (t0 := t) (k := k) 21 (settleTo t k).1 (settleTo t k).2 ih.1 ih.2.1 ih.2.2.1 (by omega) ih.2.2.2.1
    refine ⟨this.1, this.2.1, this.2.2.1, this.2.2.2.1, ?_⟩
    have h5 := this.2.2.2.2
    have h6 := ih.2.2.2.2
    show (settleF 21 _ _ _).2 ≤ _
    push_cast at h5 h6 ⊢
    omega
end Pl
end Go.Proofs.Ytaepohocabealaa

/-
  Contracts: SettleTell, the program's (chapter 10). No conditions.
-/
namespace Go.Proofs.Ytaepohocabealaa
open Go.RowKit
attribute [local go_sem] und_cell cha_cell World.cell?_alloc_some
def Pl.settleTell (t : Tell) : Tell × Int × Bool := if Pl.goodTell t = true then ((Pl.settleTo t t.Texts.length).1, (Pl.settleTo t t.Texts.length).2, true) else (Pl.zTe, 0, false)
def SettleAns (r : Tell × Int × Bool) (w : World) (e : Ending) (w' : World) : Prop :=
  ∃ cs fp0, e = .returned (.tuple #[.agg cs.toArray, .int .i64 r.2.1, .bool r.2.2]) ∧ Mm.SepF [] w w' [Mm.tow rTell r.1 cs fp0]
theorem settleNo {w w' : World} (h : Below w.heap.size w w') : SettleAns (Pl.zTe, 0, false) w (.returned (.tuple #[.agg zTell.toArray, .int .i64 0, .bool false])) w' :=
  ⟨zTell, [], rfl, ⟨Mm.Chg.of_below h, by simp [Mm.tow], by simp [Mm.tow], List.forall_mem_cons.2 ⟨zTe_own, fun u hu => by cases hu⟩⟩⟩
/-- the line forgotten -/
theorem noLine_shut {F : List Nat} {w0 wr : World} {g : Nat} {x : Tell} {A0 A1 A2 A3 A4 : Option Addr} {n0 c0 n1 c1 n2 c2 n3 c3 n4 c4 : Nat} {f0 f1 f2 f3 f4 : List Nat} {ts : List Mm.Thing} (h : Mm.SepF F w0 wr (Mm.tblk g 31 [.slice A0 n0 c0, .slice A1 n1 c1, .slice A2 n2 c2, .slice A3 n3 c3, .slice A4 n4 c4] :: Mm.tsl strs 40 x.Texts (.slice A0 n0 c0) f0 :: Mm.tsl Mm.int 3 x.Heard (.slice A1 n1 c1) f1 :: Mm.tsl rNote 94 x.Line (.slice A2 n2 c2) f2 :: Mm.tsl rTold 52 x.Log (.slice A3 n3 c3) f3 :: Mm.tsl Mm.int 3 x.Next (.slice A4 n4 c4) f4 :: ts)) :
    ∃ fp, Mm.SepF F w0 (wr.setCell ⟨g, 2, none⟩ (.slice none 0 0)) (Mm.tptr rTell 31 g (Pl.noLine x) fp :: ts) := by
  have h1 := h.setBlk (k := 2) 0 rfl (.slice none 0 0)
  have h2 := h1.upd (i := 3) (t' := Mm.tsl rNote 94 [] (.slice none 0 0) []) rfl (Mm.Chg.refl _ _) Mm.SlOwn.nil List.nodup_nil (fun b hb => by cases hb)
  exact ⟨_, shut_Tell (x := Pl.noLine x) h2⟩
theorem Pl.settle_len {x : Tell} (hw : Pl.TWf x) {k : Nat} (hk : k < x.Texts.length) : ((Pl.tAt x k).length : Int) - Pl.iAt x.Heard k ≤ 21 := by
  have hx := List.getElem?_eq_getElem hk
  have hy := List.getElem?_eq_getElem (show k < x.Heard.length by rw [hw.heard]; exact hk)
  have h3 := hw.texts k _ hx
  have h4 := hw.hd k _ _ hy hx
  rw [Pl.tAt_of (t := x) (k := (k : Int)) (l := x.Texts[k]) (by simp), Pl.iAt_of (l := x.Heard) (k := (k : Int)) (a := x.Heard[k]'(by rw [hw.heard]; exact hk)) (by simp)]
  omega
set_option maxRecDepth 100000 in
set_option maxHeartbeats 4000000 in
theorem implSettleTell_c (t : Tell) (cs : List Value) (w : World) (B : Nat) (ht : rTell.at_ w B t cs) (hB : B ≤ w.heap.size) :
    Calls Try.prog 13 #[.agg cs.toArray] w (SettleAns (Pl.settleTell t) w) := by
  obtain ⟨A0, n0, c0, A1, n1, c1, A2, n2, c2, A3, n3, c3, A4, n4, c4, rfl, -⟩ := rTell_at ht
  have HRT := Lib.hid ht
  clear ht
  go_enter Try.func13, Try.ntmps13
  go_upto_region 1 with fail
  obtain ⟨ga, hga⟩ : ∃ ga, w.heap.size = ga := ⟨_, rfl⟩
  obtain ⟨gr, hgr⟩ : ∃ gr, ga + 1 = gr := ⟨_, rfl⟩
  obtain ⟨W0, hW0⟩ : ∃ W0, (w.alloc (.cells #[.slice A0 n0 c0, .slice A1 n1 c1, .slice A2 n2 c2, .slice A3 n3 c3, .slice A4 n4 c4] 31)).alloc (.cells #[.slice none 0 0, .slice none 0 0, .slice none 0 0, .slice none 0 0, .slice none 0 0] 31) = W0 := ⟨_, rfl⟩
  have HS := Lib.hid ((((Mm.SepF.start w).alloc' hga 31 [.slice A0 n0 c0, .slice A1 n1 c1, .slice A2 n2 c2, .slice A3 n3 c3, .slice A4 n4 c4]).alloc' (g := gr) (by rw [Mm.sz1, hga, hgr]) 31 zTell).atW hW0)
  rw [hW0, hga, hgr]
  have HGA := Lib.hid hga
  clear hW0 hga hgr
  have HRT0 := Lib.hid (rTell.keep HRT.out (w' := W0) fun b hb => HS.out.bel0.block b (by omega))
  have HBW := Lib.hid (Nat.le_trans hB HS.out.chg.size)
  have HSR := HS
  have b0 := HSR.out.cell (k := 0) 1 rfl rfl
  have b1 := HSR.out.cell (k := 1) 1 rfl rfl
  have b2 := HSR.out.cell (k := 2) 1 rfl rfl
  have b3 := HSR.out.cell (k := 3) 1 rfl rfl
  have b4 := HSR.out.cell (k := 4) 1 rfl rfl
  have r0 := HSR.out.cell (k := 0) 0 rfl rfl
  have r1 := HSR.out.cell (k := 1) 0 rfl rfl
  have r2 := HSR.out.cell (k := 2) 0 rfl rfl
  have r3 := HSR.out.cell (k := 3) 0 rfl rfl
  have r4 := HSR.out.cell (k := 4) 0 rfl rfl
  have z0 := HSR.out.frz (k := 0) 0 rfl
  have z1 := HSR.out.frz (k := 1) 0 rfl
  have z2 := HSR.out.frz (k := 2) 0 rfl
  have z3 := HSR.out.frz (k := 3) 0 rfl
  have z4 := HSR.out.frz (k := 4) 0 rfl
  obtain ⟨gd, hgd⟩ : ∃ gd, Pl.goodTell t = gd := ⟨_, rfl⟩
  have HGD := Lib.hid hgd
  clear hgd
  have CI := isTell_c t _ W0 B HRT0.out HBW.out
  rw [HGD.out] at CI
  cases gd with
  | false =>
    have HF : Hid (Pl.settleTell t = (Pl.zTe, 0, false)) := if_neg (fun h => by rw [HGD.out] at h; cases h)
    go_wp2_with (go_at_call 53; refine CI.mono ?_; rintro e w1 ⟨rfl, hb1⟩; (have HSR := Lib.hid (HS.out.step hb1)); (clear b0 b1 b2 b3 b4 r0 r1 r2 r3 r4 z0 z1 z2 z3 z4); (have r0 := HSR.out.cell (k := 0) 0 rfl rfl); (have r1 := HSR.out.cell (k := 1) 0 rfl rfl); (have r2 := HSR.out.cell (k := 2) 0 rfl rfl); (have r3 := HSR.out.cell (k := 3) 0 rfl rfl); (have r4 := HSR.out.cell (k := 4) 0 rfl rfl); (have z0 := HSR.out.frz (k := 0) 0 rfl); (have z1 := HSR.out.frz (k := 1) 0 rfl); (have z2 := HSR.out.frz (k := 2) 0 rfl); (have z3 := HSR.out.frz (k := 3) 0 rfl); (have z4 := HSR.out.frz (k := 4) 0 rfl))
    rw [HF.out]
    have HSF := Lib.hid (((((HSR.out.setBlk (k := 0) 0 rfl (.slice none 0 0)).setBlk (k := 1) 0 rfl (.slice none 0 0)).setBlk (k := 2) 0 rfl (.slice none 0 0)).setBlk (k := 3) 0 rfl (.slice none 0 0)).setBlk (k := 4) 0 rfl (.slice none 0 0))
    have q0 := HSF.out.cell (k := 0) 0 rfl rfl
    have q1 := HSF.out.cell (k := 1) 0 rfl rfl
    have q2 := HSF.out.cell (k := 2) 0 rfl rfl
    have q3 := HSF.out.cell (k := 3) 0 rfl rfl
    have q4 := HSF.out.cell (k := 4) 0 rfl rfl
    exact bodyPost_ret (v := .tuple #[.agg zTell.toArray, .int .i64 0, .bool false]) (by simp [results, Try.results13, go_sem, zTell, q0, q1, q2, q3, q4]) rfl (settleNo HSF.out.bel0)
  | true =>
    have HF : Hid (Pl.settleTell t = ((Pl.settleTo t t.Texts.length).1, (Pl.settleTo t t.Texts.length).2, true)) := if_pos HGD.out
    have HWF := Lib.hid (Pl.good_wf HGD.out)
    have HLE := Lib.hid (Pl.good_hle HGD.out)
    have hn1 := Pl.good_n HGD.out
    have hn4 := HWF.out.n4
    go_wp2_with (first
      | (go_at_call 53; refine CI.mono ?_; rintro e w1 ⟨rfl, hb1⟩; (have HS1 := Lib.hid (HS.out.step hb1)); (have HRT1 := Lib.hid (rTell.keep HRT0.out (w' := w1) fun b hb => hb1.block b (Nat.lt_of_lt_of_le hb HBW.out))); (have HBW1 := Lib.hid (Nat.le_trans HBW.out hb1.size)); (clear b0 b1 b2 b3 b4 r0 r1 r2 r3 r4 z0 z1 z2 z3 z4); clear hb1; (have b0 := HS1.out.cell (k := 0) 1 rfl rfl); (have b1 := HS1.out.cell (k := 1) 1 rfl rfl); (have b2 := HS1.out.cell (k := 2) 1 rfl rfl); (have b3 := HS1.out.cell (k := 3) 1 rfl rfl); (have b4 := HS1.out.cell (k := 4) 1 rfl rfl))
      | (go_at_call 54; refine (cloneTell_c t _ w1 B HRT1.out HBW1.out HWF.out.sz hn1).mono ?_; rintro e w2 ⟨cs5, fp5, rfl, ho, hnd, hnew, hb2⟩; obtain ⟨a0, k0, a1, k1, a2, k2, a3, k3, a4, k4, rfl⟩ := own_form ho; (have HS2 := Lib.hid (HS1.out.add hb2 (t := Mm.tow rTell t _ _) ho hnd hnew)); clear ho hnd hnew hb2 b0 b1 b2 b3 b4; (have HS2b := Lib.hid (HS2.out.alloc' rfl 31 [.slice a0 t.Texts.length k0, .slice a1 t.Heard.length k1, .slice a2 t.Line.length k2, .slice a3 t.Log.length k3, .slice a4 t.Next.length k4])); (have s0 := HS2b.out.cell (k := 0) 0 rfl rfl)))
    obtain ⟨g5, hg5⟩ : ∃ g5, w2.heap.size = g5 := ⟨_, rfl⟩
    rw [hg5] at HS2b ⊢
    clear hg5 s0 HS2 HRT1 HBW1
    obtain ⟨W2, hW2⟩ : ∃ W2, w2.alloc (.cells #[.slice a0 t.Texts.length k0, .slice a1 t.Heard.length k1, .slice a2 t.Line.length k2, .slice a3 t.Log.length k3, .slice a4 t.Next.length k4] 31) = W2 := ⟨_, rfl⟩
    have HS3 := Lib.hid (((HS2b.out.toPtr).sel [0, 1] (by decide) rfl).atW hW2)
    rw [hW2]
    clear HS2b hW2
    obtain ⟨n, hn⟩ : ∃ n, t.Texts.length = n := ⟨_, rfl⟩
    rw [hn] at HF hn1 hn4 ⊢
    have HN := Lib.hid hn
    clear hn
    go_loopg [6, 17] n (fun g cnt i wr => ∃ (k : Nat) (fp : List Nat) (c : Int), n - k ≤ g ∧ k ≤ n ∧ cnt = .int .i64 c ∧ i = .int .i64 k ∧ Hid (c = (Pl.settleTo t k).2 ∧ Mm.SepF [] w wr [Mm.tptr rTell 31 g5 (Pl.settleTo t k).1 fp, Mm.tblk gr 31 zTell]))
    case atStart => exact ⟨0, _, 0, Nat.le_refl _, Nat.zero_le _, rfl, rfl, Lib.hid ⟨rfl, by rw [show Pl.settleTo t 0 = (t, 0) from rfl]; exact HS3.out⟩⟩
    case round =>
      clear HS3
      obtain ⟨k, fp, c, hgk, hk, rfl, rfl, HS'⟩ := hrel
      obtain ⟨Wo, rfl⟩ : ∃ Wo : World, Wo = wr := ⟨_, rfl⟩
      have HC := Lib.hid HS'.out.1
      have HSk := Lib.hid HS'.out.2
      clear HS'
      have HOK := Lib.hid (Pl.settleTo_ok HWF.out HLE.out k (by rw [HN.out]; exact hk))
      by_cases hlt : k < n
      · have f1 : ((k : Nat) : Int) < ((n : Nat) : Int) := by omega
        have f2 : (0 : Int) ≤ (k : Nat) := by omega
        have f3 : ((k : Nat) : Int).toNat = k := by omega
        go_wp2
        go_loopg [6] 21 (fun g2 cnt wr => ∃ (f : Nat) (x : Tell) (fp : List Nat) (c : Int), f ≤ g2 ∧ cnt = .int .i64 c ∧ 0 ≤ c ∧ c + f ≤ 1000 ∧ Hid (Pl.settleF f x k c = Pl.settleTo t (k + 1) ∧ ((Pl.tAt x k).length : Int) - Pl.iAt x.Heard k ≤ f ∧ Pl.TWf x ∧ Pl.HLe x ∧ x.Texts = t.Texts ∧ Mm.SepF [] w wr [Mm.tptr rTell 31 g5 x fp, Mm.tblk gr 31 zTell]))
        case atStart => exact ⟨21, _, fp, c, Nat.le_refl _, rfl, by rw [HC.out]; exact HOK.out.2.2.2.1, by have := HOK.out.2.2.2.2; rw [HC.out]; omega, Lib.hid ⟨by rw [HC.out]; rfl, Pl.settle_len HOK.out.1 (by rw [HOK.out.2.2.1, HN.out]; exact hlt), HOK.out.1, HOK.out.2.1, HOK.out.2.2.1, HSk.out⟩⟩
        case round =>
          clear HSk HC HOK
          obtain ⟨f, x, fp, c, hfg, rfl, hc0, hc1, HR⟩ := hrel
          obtain ⟨Wi, rfl⟩ : ∃ Wi : World, Wi = wr := ⟨_, rfl⟩
          have HXW := Lib.hid HR.out.2.2.1
          have HXL := Lib.hid HR.out.2.2.2.1
          have HXT := Lib.hid HR.out.2.2.2.2.1
          have HFE := Lib.hid HR.out.1
          have hfl := HR.out.2.1
          obtain ⟨A0, m0, c0, A1, m1, c1, A2, m2, c2, A3, m3, c3, A4, m4, c4, f0, f1, f2, f3, f4, rfl, hs⟩ := open_Tell HR.out.2.2.2.2.2
          have HS := Lib.hid hs
          clear hs HR
          have hm0 : m0 = n := by obtain ⟨A', n', c', hv, h1, _⟩ := (HS.out.sl 1 rfl).form; injection hv with _ h2 _; rw [HXT.out, HN.out] at h1; omega
          have hm1 : m1 = n := by obtain ⟨A', n', c', hv, h1, _⟩ := (HS.out.sl 2 rfl).form; injection hv with _ h2 _; have := HXW.out.heard; rw [HXT.out, HN.out] at this; omega
          obtain rfl : n = m0 := hm0.symm
          obtain rfl : n = m1 := hm1.symm
          obtain ⟨g0, rfl, -, -⟩ := Mm.sl_addr (HS.out.sl 1 rfl) (by rw [HXT.out, HN.out]; omega)
          obtain ⟨g1, rfl, -, -⟩ := Mm.sl_addr (HS.out.sl 2 rfl) (by rw [HXW.out.heard, HXT.out, HN.out]; omega)
          obtain ⟨ys, hy⟩ : ∃ ys, x.Texts[k]? = some ys := ⟨_, List.getElem?_eq_getElem (by rw [HXT.out, HN.out]; exact hlt)⟩
          obtain ⟨a, ha⟩ : ∃ a, x.Heard[k]? = some a := ⟨_, List.getElem?_eq_getElem (by rw [HXW.out.heard, HXT.out, HN.out]; exact hlt)⟩
          have hyt := Pl.tAt_of (t := x) (k := (k : Int)) (l := ys) (by simpa using hy)
          have hai := Pl.iAt_of (l := x.Heard) (k := (k : Int)) (a := a) (by simpa using ha)
          obtain ⟨A, m, d, fx, e0, rfl, -⟩ := HS.out.openIn 1 rfl hy
          have e1 := int_ocell (HS.out.sl 2 rfl) (HS.out.ndat (i := 2) rfl) ha
          have hys := HXW.out.texts k ys hy
          have hab := HXW.out.hd k a ys ha hy
          have HYT := Lib.hid hyt
          have HAI := Lib.hid hai
          rw [hyt, hai] at hfl
          clear hy ha hyt hai
          have b0 := HS.out.cell (k := 0) 0 rfl rfl
          have b1 := HS.out.cell (k := 1) 0 rfl rfl
          have hcap : n ≤ c0 ∧ c0 ≤ maxLen := by obtain ⟨A', n', c', hv, h1, h2, h3, _⟩ := (HS.out.sl 1 rfl).form; injection hv with _ h4 h5; omega
          have hcap1 : n ≤ c1 ∧ c1 ≤ maxLen := by obtain ⟨A', n', c', hv, h1, h2, h3, _⟩ := (HS.out.sl 2 rfl).form; injection hv with _ h4 h5; omega
          unfold maxLen at hcap hcap1
          by_cases hlen : a < (ys.length : Nat)
          · obtain ⟨f, rfl⟩ : ∃ f', f = f' + 1 := ⟨f - 1, by omega⟩
            have HSO := Lib.hid (Pl.settle_one HXW.out HXL.out (k := k) (by rw [HXT.out, HN.out]; exact hlt) (by rw [HYT.out, HAI.out]; exact hlen))
            have HF1 : Hid (Pl.settleF f (Pl.settleOne x k) k (c + 1) = Pl.settleTo t (k + 1)) := Lib.hid (by
              rw [← HFE.out]
              show _ = if Pl.iAt x.Heard k < (Pl.tAt x k).length then _ else _
              rw [if_pos (by rw [HYT.out, HAI.out]; exact hlen)])
            have u1 : decide (a < ((ys.length : Nat) : Int)) = true := by simp [hlen]
            have hwc : IntKind.i64.wrap (c + 1) = c + 1 := IntWalk.i64_in _ (by omega)
            go_wp2
            refine wp_region_und (by kernel_rfl) (by kernel_rfl) ?_
            repeat (go_big_quiet_step ((first | fail)))
            refine wpQuiet_nil ?_
            intro X hX
            have HS1 := Lib.hid (HS.out.step hX)
            clear b0 b1 e0 e1 hX
            have b2 := HS1.out.cell (k := 2) 0 rfl rfl
            have z2 := HS1.out.frz (k := 2) 0 rfl
            obtain ⟨fpn, hsn⟩ := noLine_shut HS1.out
            have HSN := Lib.hid hsn
            clear hsn
            go_upto_region 10 with fail
            obtain ⟨Wn, hWn⟩ : ∃ Wn, X.setCell ⟨g5, 2, none⟩ (.slice none 0 0) = Wn := ⟨_, rfl⟩
            rw [hWn] at HSN ⊢
            clear hWn b2 z2
            have HW0 := Lib.hid (Pl.noLine_wf HXW.out)
            have C1 := step_c (Pl.noLine x) ⟨2, k, ⟨#[]⟩⟩ g5 fpn Wn (HSN.out.at_ 0 rfl) (HSN.out.ndat (i := 0) rfl) ⟨by show Mm.I64 ((k : Nat) : Int); unfold Mm.I64; omega, Nat.zero_le _⟩ HW0.out
            have HW1 := Lib.hid (HW0.out.step ⟨2, k, ⟨#[]⟩⟩)
            have HW2 := Lib.hid (HW1.out.step ⟨3, 0, ⟨#[]⟩⟩)
            have hi0 : Mm.I64 0 := by unfold Mm.I64; omega
            have HI0 := Lib.hid hi0
            clear hi0
            go_wp2_with fail
            refine C1.mono ?_
            rintro e w5 ⟨rfl, fp5, hL⟩
            have HSA := Lib.hid (HSN.out.call 0 rfl hL)
            clear hL C1
            have C2 := step_c (Pl.tstep (Pl.noLine x) ⟨2, k, ⟨#[]⟩⟩).1 ⟨3, 0, ⟨#[]⟩⟩ g5 fp5 w5 (HSA.out.at_ 0 rfl) (HSA.out.ndat (i := 0) rfl) ⟨HI0.out, Nat.zero_le _⟩ HW1.out
            go_wp2_with fail
            refine C2.mono ?_
            rintro e w6 ⟨rfl, fp6, hL⟩
            have HSB := Lib.hid (HSA.out.call 0 rfl hL)
            clear hL C2 HSA
            have C3 := step_c (Pl.tstep (Pl.tstep (Pl.noLine x) ⟨2, k, ⟨#[]⟩⟩).1 ⟨3, 0, ⟨#[]⟩⟩).1 ⟨3, 0, ⟨#[]⟩⟩ g5 fp6 w6 (HSB.out.at_ 0 rfl) (HSB.out.ndat (i := 0) rfl) ⟨HI0.out, Nat.zero_le _⟩ HW2.out
            go_wp2_with fail
            refine C3.mono ?_
            rintro e w7 ⟨rfl, fp7, hL⟩
            have HSC : Hid (Mm.SepF [] w w7 [Mm.tptr rTell 31 g5 (Pl.settleOne x k) fp7, Mm.tblk gr 31 zTell]) := Lib.hid (HSB.out.call 0 rfl hL)
            clear hL C3 HSB
            go_wp2
            go_roundg f
            case measure => omega
            case rel => exact ⟨f, _, fp7, c + 1, Nat.le_refl _, rfl, by omega, by omega, Lib.hid ⟨HF1.out, by
              have h1 := HSO.out.2.2.2
              have h2 : Pl.tAt (Pl.settleOne x k) (k : Int) = Pl.tAt x k := by unfold Pl.tAt; rw [HSO.out.2.2.1]
              rw [h2, HYT.out]
              rw [HAI.out] at h1
              omega, HSO.out.1, HSO.out.2.1, HSO.out.2.2.1.trans HXT.out, HSC.out⟩⟩
          · have u1 : decide (a < ((ys.length : Nat) : Int)) = false := by simp; omega
            have HF1 : Hid (Pl.settleTo t (k + 1) = (x, c)) := Lib.hid (by
              rw [← HFE.out]
              cases f with
              | zero => rfl
              | succ f =>
                show (if Pl.iAt x.Heard k < (Pl.tAt x k).length then _ else _) = _
                rw [if_neg (by rw [HYT.out, HAI.out]; exact hlen)])
            go_wp2
            refine wp_region_und (by kernel_rfl) (by kernel_rfl) ?_
            repeat (go_big_quiet_step ((first | fail)))
            refine wpQuiet_nil ?_
            intro X hX
            have HS1 := Lib.hid (shut_Tell (HS.out.step hX))
            clear b0 b1 e0 e1 hX
            go_wp2
            go_roundg (n - (k + 1))
            case measure => omega
            case rel => exact ⟨k + 1, _, c, Nat.le_refl _, by omega, rfl, by go_num, Lib.hid ⟨by rw [HF1.out], by rw [HF1.out]; exact HS1.out⟩⟩
      · obtain rfl : n = k := by omega
        have f1 : ¬ ((n : Nat) : Int) < ((n : Nat) : Int) := by omega
        obtain ⟨A10, n10, c10, A11, n11, c11, A12, n12, c12, A13, n13, c13, A14, n14, c14, f10, f11, f12, f13, f14, rfl, hs9⟩ := open_Tell HSk.out
        have HSR := Lib.hid hs9
        clear hs9
        have b0 := HSR.out.cell (k := 0) 0 rfl rfl
        have b1 := HSR.out.cell (k := 1) 0 rfl rfl
        have b2 := HSR.out.cell (k := 2) 0 rfl rfl
        have b3 := HSR.out.cell (k := 3) 0 rfl rfl
        have b4 := HSR.out.cell (k := 4) 0 rfl rfl
        have r0 := HSR.out.cell (k := 0) 6 rfl rfl
        have r1 := HSR.out.cell (k := 1) 6 rfl rfl
        have r2 := HSR.out.cell (k := 2) 6 rfl rfl
        have r3 := HSR.out.cell (k := 3) 6 rfl rfl
        have r4 := HSR.out.cell (k := 4) 6 rfl rfl
        have z0 := HSR.out.frz (k := 0) 6 rfl
        have z1 := HSR.out.frz (k := 1) 6 rfl
        have z2 := HSR.out.frz (k := 2) 6 rfl
        have z3 := HSR.out.frz (k := 3) 6 rfl
        have z4 := HSR.out.frz (k := 4) 6 rfl
        go_wp2
        have HSF := Lib.hid (((((HSR.out.setBlk (k := 0) 6 rfl (.slice A10 n10 c10)).setBlk (k := 1) 6 rfl (.slice A11 n11 c11)).setBlk (k := 2) 6 rfl (.slice A12 n12 c12)).setBlk (k := 3) 6 rfl (.slice A13 n13 c13)).setBlk (k := 4) 6 rfl (.slice A14 n14 c14))
        have q0 := HSF.out.cell (k := 0) 6 rfl rfl
        have q1 := HSF.out.cell (k := 1) 6 rfl rfl
        have q2 := HSF.out.cell (k := 2) 6 rfl rfl
        have q3 := HSF.out.cell (k := 3) 6 rfl rfl
        have q4 := HSF.out.cell (k := 4) 6 rfl rfl
        rw [HF.out, ← HC.out]
        exact bodyPost_ret (v := .tuple #[.agg #[.slice A10 n10 c10, .slice A11 n11 c11, .slice A12 n12 c12, .slice A13 n13 c13, .slice A14 n14 c14], .int .i64 c, .bool true]) (by simp [results, Try.results13, go_sem, q0, q1, q2, q3, q4]) rfl ⟨_, _, rfl, shutv_Tell (x := (Pl.settleTo t n).1) (HSF.out.sel [1, 2, 3, 4, 5] (by decide) rfl)⟩
end Go.Proofs.Ytaepohocabealaa

/-
  Contracts: SettleTell, the reference's (chapter 10). No conditions.
-/
namespace Go.Proofs.Ytaepohocabealaa
open Go.RowKit
attribute [local go_sem] und_cell cha_cell World.cell?_alloc_some
/-- the line forgotten, by value -/
theorem noLine_shutv {F : List Nat} {w0 wr : World} {g : Nat} {x : Tell} {A0 A1 A2 A3 A4 : Option Addr} {c0 c1 c2 c3 c4 : Nat} {fp : List Nat} {ts : List Mm.Thing} (h : Mm.SepF F w0 wr (Mm.tow rTell x [.slice A0 x.Texts.length c0, .slice A1 x.Heard.length c1, .slice A2 x.Line.length c2, .slice A3 x.Log.length c3, .slice A4 x.Next.length c4] fp :: Mm.tblk g 31 [.slice A0 x.Texts.length c0, .slice A1 x.Heard.length c1, .slice A2 x.Line.length c2, .slice A3 x.Log.length c3, .slice A4 x.Next.length c4] :: ts)) :
    ∃ fp', Mm.SepF F w0 (wr.setCell ⟨g, 2, none⟩ (.slice none 0 0)) (Mm.tow rTell (Pl.noLine x) [.slice A0 x.Texts.length c0, .slice A1 x.Heard.length c1, .slice none 0 0, .slice A3 x.Log.length c3, .slice A4 x.Next.length c4] fp' :: Mm.tblk g 31 [.slice A0 x.Texts.length c0, .slice A1 x.Heard.length c1, .slice none 0 0, .slice A3 x.Log.length c3, .slice A4 x.Next.length c4] :: ts) := by
  have h1 := h.setBlk (k := 2) 1 rfl (.slice none 0 0)
  obtain ⟨B0, d0, B1, d1, B2, d2, B3, d3, B4, d4, f0, f1, f2, f3, f4, he, rfl, h2⟩ := openv_Tell h1
  injection he with e0 he
  injection he with e1 he
  injection he with e2 he
  injection he with e3 he
  injection he with e4 he
  injection e0 with e0 _ g0
  injection e1 with e1 _ g1
  injection e2 with e2 _ g2
  injection e3 with e3 _ g3
  injection e4 with e4 _ g4
  subst e0 g0 e1 g1 e2 g2 e3 g3 e4 g4
  have h3 := h2.upd (i := 2) (t' := Mm.tsl rNote 94 [] (.slice none 0 0) []) rfl (Mm.Chg.refl _ _) Mm.SlOwn.nil List.nodup_nil (fun b hb => by cases hb)
  exact ⟨_, shutv_Tell (x := Pl.noLine x) h3⟩
set_option maxRecDepth 100000 in
set_option maxHeartbeats 4000000 in
theorem specSettleTell_c (t : Tell) (cs : List Value) (w : World) (B : Nat) (ht : rTell.at_ w B t cs) (hB : B ≤ w.heap.size) :
    Calls Try.prog 22 #[.agg cs.toArray] w (SettleAns (Pl.settleTell t) w) := by
  obtain ⟨A0, n0, c0, A1, n1, c1, A2, n2, c2, A3, n3, c3, A4, n4, c4, rfl, -⟩ := rTell_at ht
  have HRT := Lib.hid ht
  clear ht
  go_enter Try.func22, Try.ntmps22
  go_upto_region 1 with fail
  obtain ⟨ga, hga⟩ : ∃ ga, w.heap.size = ga := ⟨_, rfl⟩
  obtain ⟨gr, hgr⟩ : ∃ gr, ga + 1 = gr := ⟨_, rfl⟩
  obtain ⟨W0, hW0⟩ : ∃ W0, (w.alloc (.cells #[.slice A0 n0 c0, .slice A1 n1 c1, .slice A2 n2 c2, .slice A3 n3 c3, .slice A4 n4 c4] 31)).alloc (.cells #[.slice none 0 0, .slice none 0 0, .slice none 0 0, .slice none 0 0, .slice none 0 0] 31) = W0 := ⟨_, rfl⟩
  have HS := Lib.hid ((((Mm.SepF.start w).alloc' hga 31 [.slice A0 n0 c0, .slice A1 n1 c1, .slice A2 n2 c2, .slice A3 n3 c3, .slice A4 n4 c4]).alloc' (g := gr) (by rw [Mm.sz1, hga, hgr]) 31 zTell).atW hW0)
  rw [hW0, hga, hgr]
  have HGA := Lib.hid hga
  clear hW0 hga hgr
  have HRT0 := Lib.hid (rTell.keep HRT.out (w' := W0) fun b hb => HS.out.bel0.block b (by omega))
  have HBW := Lib.hid (Nat.le_trans hB HS.out.chg.size)
  have HSR := HS
  have b0 := HSR.out.cell (k := 0) 1 rfl rfl
  have b1 := HSR.out.cell (k := 1) 1 rfl rfl
  have b2 := HSR.out.cell (k := 2) 1 rfl rfl
  have b3 := HSR.out.cell (k := 3) 1 rfl rfl
  have b4 := HSR.out.cell (k := 4) 1 rfl rfl
  have r0 := HSR.out.cell (k := 0) 0 rfl rfl
  have r1 := HSR.out.cell (k := 1) 0 rfl rfl
  have r2 := HSR.out.cell (k := 2) 0 rfl rfl
  have r3 := HSR.out.cell (k := 3) 0 rfl rfl
  have r4 := HSR.out.cell (k := 4) 0 rfl rfl
  have z0 := HSR.out.frz (k := 0) 0 rfl
  have z1 := HSR.out.frz (k := 1) 0 rfl
  have z2 := HSR.out.frz (k := 2) 0 rfl
  have z3 := HSR.out.frz (k := 3) 0 rfl
  have z4 := HSR.out.frz (k := 4) 0 rfl
  obtain ⟨gd, hgd⟩ : ∃ gd, Pl.goodTell t = gd := ⟨_, rfl⟩
  have HGD := Lib.hid hgd
  clear hgd
  have CI := GoodTell_c t _ W0 B HRT0.out HBW.out
  rw [HGD.out] at CI
  cases gd with
  | false =>
    have HF : Hid (Pl.settleTell t = (Pl.zTe, 0, false)) := if_neg (fun h => by rw [HGD.out] at h; cases h)
    go_wp2_with (go_at_call 20; refine CI.mono ?_; rintro e w1 ⟨rfl, hb1⟩; (have HSR := Lib.hid (HS.out.step hb1)); (clear b0 b1 b2 b3 b4 r0 r1 r2 r3 r4 z0 z1 z2 z3 z4); (have r0 := HSR.out.cell (k := 0) 0 rfl rfl); (have r1 := HSR.out.cell (k := 1) 0 rfl rfl); (have r2 := HSR.out.cell (k := 2) 0 rfl rfl); (have r3 := HSR.out.cell (k := 3) 0 rfl rfl); (have r4 := HSR.out.cell (k := 4) 0 rfl rfl); (have z0 := HSR.out.frz (k := 0) 0 rfl); (have z1 := HSR.out.frz (k := 1) 0 rfl); (have z2 := HSR.out.frz (k := 2) 0 rfl); (have z3 := HSR.out.frz (k := 3) 0 rfl); (have z4 := HSR.out.frz (k := 4) 0 rfl))
    rw [HF.out]
    have HSF := Lib.hid (((((HSR.out.setBlk (k := 0) 0 rfl (.slice none 0 0)).setBlk (k := 1) 0 rfl (.slice none 0 0)).setBlk (k := 2) 0 rfl (.slice none 0 0)).setBlk (k := 3) 0 rfl (.slice none 0 0)).setBlk (k := 4) 0 rfl (.slice none 0 0))
    have q0 := HSF.out.cell (k := 0) 0 rfl rfl
    have q1 := HSF.out.cell (k := 1) 0 rfl rfl
    have q2 := HSF.out.cell (k := 2) 0 rfl rfl
    have q3 := HSF.out.cell (k := 3) 0 rfl rfl
    have q4 := HSF.out.cell (k := 4) 0 rfl rfl
    exact bodyPost_ret (v := .tuple #[.agg zTell.toArray, .int .i64 0, .bool false]) (by simp [results, Try.results22, go_sem, zTell, q0, q1, q2, q3, q4]) rfl (settleNo HSF.out.bel0)
  | true =>
    have HF : Hid (Pl.settleTell t = ((Pl.settleTo t t.Texts.length).1, (Pl.settleTo t t.Texts.length).2, true)) := if_pos HGD.out
    have HWF := Lib.hid (Pl.good_wf HGD.out)
    have HLE := Lib.hid (Pl.good_hle HGD.out)
    have hn1 := Pl.good_n HGD.out
    have hn4 := HWF.out.n4
    go_wp2_with (first
      | (go_at_call 20; refine CI.mono ?_; rintro e w1 ⟨rfl, hb1⟩; (have HS1 := Lib.hid (HS.out.step hb1)); (have HRT1 := Lib.hid (rTell.keep HRT0.out (w' := w1) fun b hb => hb1.block b (Nat.lt_of_lt_of_le hb HBW.out))); (have HBW1 := Lib.hid (Nat.le_trans HBW.out hb1.size)); (clear b0 b1 b2 b3 b4 r0 r1 r2 r3 r4 z0 z1 z2 z3 z4); clear hb1; (have b0 := HS1.out.cell (k := 0) 1 rfl rfl); (have b1 := HS1.out.cell (k := 1) 1 rfl rfl); (have b2 := HS1.out.cell (k := 2) 1 rfl rfl); (have b3 := HS1.out.cell (k := 3) 1 rfl rfl); (have b4 := HS1.out.cell (k := 4) 1 rfl rfl))
      | (go_at_call 51; refine (l10Own_c t _ w1 B HRT1.out HBW1.out HWF.out.sz).mono ?_; rintro e w2 ⟨cs5, fp5, rfl, ho, hnd, hnew, hb2⟩; obtain ⟨a0, k0, a1, k1, a2, k2, a3, k3, a4, k4, rfl⟩ := own_form ho; (have HS2 := Lib.hid (HS1.out.add hb2 (t := Mm.tow rTell t _ _) ho hnd hnew)); clear ho hnd hnew hb2 b0 b1 b2 b3 b4; (have HS2b := Lib.hid (HS2.out.alloc' rfl 31 [.slice a0 t.Texts.length k0, .slice a1 t.Heard.length k1, .slice a2 t.Line.length k2, .slice a3 t.Log.length k3, .slice a4 t.Next.length k4])); (have s0 := HS2b.out.cell (k := 0) 0 rfl rfl)))
    obtain ⟨g5, hg5⟩ : ∃ g5, w2.heap.size = g5 := ⟨_, rfl⟩
    rw [hg5] at HS2b ⊢
    clear hg5 s0 HS2 HRT1 HBW1
    obtain ⟨W2, hW2⟩ : ∃ W2, w2.alloc (.cells #[.slice a0 t.Texts.length k0, .slice a1 t.Heard.length k1, .slice a2 t.Line.length k2, .slice a3 t.Log.length k3, .slice a4 t.Next.length k4] 31) = W2 := ⟨_, rfl⟩
    have HS3 := Lib.hid ((HS2b.out.sel [1, 0, 2] (by decide) rfl).atW hW2)
    rw [hW2]
    clear HS2b hW2
    obtain ⟨n, hn⟩ : ∃ n, t.Texts.length = n := ⟨_, rfl⟩
    rw [hn] at HF hn1 hn4 ⊢
    have HN := Lib.hid hn
    clear hn
    go_loopg [6, 17] n (fun g cnt i wr => ∃ (k : Nat) (fp : List Nat) (c : Int) (A0 : Option Addr) (c0 : Nat) (A1 : Option Addr) (c1 : Nat) (A2 : Option Addr) (c2 : Nat) (A3 : Option Addr) (c3 : Nat) (A4 : Option Addr) (c4 : Nat), n - k ≤ g ∧ k ≤ n ∧ cnt = .int .i64 c ∧ i = .int .i64 k ∧ Hid (c = (Pl.settleTo t k).2 ∧ ∃ x : Tell, x = (Pl.settleTo t k).1 ∧ Mm.SepF [] w wr [Mm.tow rTell x [.slice A0 x.Texts.length c0, .slice A1 x.Heard.length c1, .slice A2 x.Line.length c2, .slice A3 x.Log.length c3, .slice A4 x.Next.length c4] fp, Mm.tblk g5 31 [.slice A0 x.Texts.length c0, .slice A1 x.Heard.length c1, .slice A2 x.Line.length c2, .slice A3 x.Log.length c3, .slice A4 x.Next.length c4], Mm.tblk gr 31 zTell]))
    case atStart => exact ⟨0, _, 0, a0, k0, a1, k1, a2, k2, a3, k3, a4, k4, Nat.le_refl _, Nat.zero_le _, rfl, rfl, Lib.hid ⟨rfl, t, rfl, HS3.out⟩⟩
    case round =>
      clear HS3
      obtain ⟨k, fp, c, A0, c0, A1, c1, A2, c2, A3, c3, A4, c4, hgk, hk, rfl, rfl, HS'⟩ := hrel
      obtain ⟨Wo, rfl⟩ : ∃ Wo : World, Wo = wr := ⟨_, rfl⟩
      have HC := Lib.hid HS'.out.1
      obtain ⟨xk, hxk, hsk⟩ := HS'.out.2
      have HXK := Lib.hid hxk
      have HSk := Lib.hid hsk
      clear HS' hxk hsk
      have HOK := Lib.hid (Pl.settleTo_ok HWF.out HLE.out k (by rw [HN.out]; exact hk))
      by_cases hlt : k < n
      · have f1 : ((k : Nat) : Int) < ((n : Nat) : Int) := by omega
        have f2 : (0 : Int) ≤ (k : Nat) := by omega
        have f3 : ((k : Nat) : Int).toNat = k := by omega
        go_wp2
        go_loopg [6] 21 (fun g2 cnt wr => ∃ (f : Nat) (x : Tell) (fp : List Nat) (c : Int) (A0 : Option Addr) (c0 : Nat) (A1 : Option Addr) (c1 : Nat) (A2 : Option Addr) (c2 : Nat) (A3 : Option Addr) (c3 : Nat) (A4 : Option Addr) (c4 : Nat), f ≤ g2 ∧ cnt = .int .i64 c ∧ 0 ≤ c ∧ c + f ≤ 1000 ∧ Hid (Pl.settleF f x k c = Pl.settleTo t (k + 1) ∧ ((Pl.tAt x k).length : Int) - Pl.iAt x.Heard k ≤ f ∧ Pl.TWf x ∧ Pl.HLe x ∧ x.Texts = t.Texts ∧ Mm.SepF [] w wr [Mm.tow rTell x [.slice A0 x.Texts.length c0, .slice A1 x.Heard.length c1, .slice A2 x.Line.length c2, .slice A3 x.Log.length c3, .slice A4 x.Next.length c4] fp, Mm.tblk g5 31 [.slice A0 x.Texts.length c0, .slice A1 x.Heard.length c1, .slice A2 x.Line.length c2, .slice A3 x.Log.length c3, .slice A4 x.Next.length c4], Mm.tblk gr 31 zTell]))
        case atStart => exact ⟨21, xk, fp, c, A0, c0, A1, c1, A2, c2, A3, c3, A4, c4, Nat.le_refl _, rfl, by rw [HC.out]; exact HOK.out.2.2.2.1, by have := HOK.out.2.2.2.2; rw [HC.out]; omega, Lib.hid ⟨by rw [HC.out, HXK.out]; rfl, by rw [HXK.out]; exact Pl.settle_len HOK.out.1 (by rw [HOK.out.2.2.1, HN.out]; exact hlt), by rw [HXK.out]; exact HOK.out.1, by rw [HXK.out]; exact HOK.out.2.1, by rw [HXK.out]; exact HOK.out.2.2.1, HSk.out⟩⟩
        case round =>
          clear HSk HC HOK HXK
          obtain ⟨f, x, fp, c, A0, c0, A1, c1, A2, c2, A3, c3, A4, c4, hfg, rfl, hc0, hc1, HR⟩ := hrel
          obtain ⟨Wi, rfl⟩ : ∃ Wi : World, Wi = wr := ⟨_, rfl⟩
          have HXW := Lib.hid HR.out.2.2.1
          have HXL := Lib.hid HR.out.2.2.2.1
          have HXT := Lib.hid HR.out.2.2.2.2.1
          have HFE := Lib.hid HR.out.1
          have hfl := HR.out.2.1
          have HSx := Lib.hid HR.out.2.2.2.2.2
          clear HR
          obtain ⟨B0, d0, B1, d1, B2, d2, B3, d3, B4, d4, v0, v1, v2, v3, v4, he, rfl, hs⟩ := openv_Tell HSx.out
          have HEQ := Lib.hid he
          have HS := Lib.hid hs
          clear hs he
          have hB0 : B0 = A0 ∧ d0 = c0 ∧ B1 = A1 ∧ d1 = c1 := by
            have he := HEQ.out
            injection he with e0 he
            injection he with e1 he
            injection e0 with e0 _ g0
            injection e1 with e1 _ g1
            exact ⟨e0.symm, g0.symm, e1.symm, g1.symm⟩
          obtain ⟨rfl, rfl, rfl, rfl⟩ := hB0
          have hxl : x.Texts.length = n := by rw [HXT.out, HN.out]
          have hxh : x.Heard.length = n := by rw [HXW.out.heard, hxl]
          obtain ⟨g0, hA0, -, -⟩ := Mm.sl_addr (HS.out.sl 0 rfl) (by rw [hxl]; omega)
          obtain ⟨g1, hA1, -, -⟩ := Mm.sl_addr (HS.out.sl 1 rfl) (by rw [hxh]; omega)
          subst hA0 hA1
          obtain ⟨ys, hy⟩ : ∃ ys, x.Texts[k]? = some ys := ⟨_, List.getElem?_eq_getElem (by rw [hxl]; exact hlt)⟩
          obtain ⟨a, ha⟩ : ∃ a, x.Heard[k]? = some a := ⟨_, List.getElem?_eq_getElem (by rw [hxh]; exact hlt)⟩
          have hyt := Pl.tAt_of (t := x) (k := (k : Int)) (l := ys) (by simpa using hy)
          have hai := Pl.iAt_of (l := x.Heard) (k := (k : Int)) (a := a) (by simpa using ha)
          obtain ⟨A, m, d, fx, e0, rfl, -⟩ := HS.out.openIn 0 rfl hy
          have e1 := int_ocell (HS.out.sl 1 rfl) (HS.out.ndat (i := 1) rfl) ha
          have hys := HXW.out.texts k ys hy
          have hab := HXW.out.hd k a ys ha hy
          have HYT := Lib.hid hyt
          have HAI := Lib.hid hai
          rw [hyt, hai] at hfl
          have f4 : ((k : Nat) : Int) < ((x.Texts.length : Nat) : Int) := by omega
          have f5 : ((k : Nat) : Int) < ((x.Heard.length : Nat) : Int) := by omega
          have hcap : x.Texts.length ≤ d0 ∧ d0 ≤ maxLen := by obtain ⟨A', n', c', hv, h1, h2, h3, _⟩ := (HS.out.sl 0 rfl).form; injection hv with _ h4 h5; omega
          have hcap1 : x.Heard.length ≤ d1 ∧ d1 ≤ maxLen := by obtain ⟨A', n', c', hv, h1, h2, h3, _⟩ := (HS.out.sl 1 rfl).form; injection hv with _ h4 h5; omega
          unfold maxLen at hcap hcap1
          have HXN := Lib.hid (And.intro hxl hxh)
          clear hy ha hyt hai hxl hxh
          have b0 := HSx.out.cell (k := 0) 1 rfl rfl
          have b1 := HSx.out.cell (k := 1) 1 rfl rfl
          by_cases hlen : a < (ys.length : Nat)
          · obtain ⟨f, rfl⟩ : ∃ f', f = f' + 1 := ⟨f - 1, by omega⟩
            have HSO := Lib.hid (Pl.settle_one HXW.out HXL.out (k := k) (by rw [HXN.out.1]; exact hlt) (by rw [HYT.out, HAI.out]; exact hlen))
            have HF1 : Hid (Pl.settleF f (Pl.settleOne x k) k (c + 1) = Pl.settleTo t (k + 1)) := Lib.hid (by
              rw [← HFE.out]
              show _ = if Pl.iAt x.Heard k < (Pl.tAt x k).length then _ else _
              rw [if_pos (by rw [HYT.out, HAI.out]; exact hlen)])
            have u1' : decide (a < ((ys.length : Nat) : Int)) = true := by simp [hlen]
            have hwc : IntKind.i64.wrap (c + 1) = c + 1 := IntWalk.i64_in _ (by omega)
            go_wp2
            refine wp_region_und (by kernel_rfl) (by kernel_rfl) ?_
            repeat (go_big_quiet_step ((first | fail)))
            refine wpQuiet_nil ?_
            intro X hX
            have HS1 := Lib.hid (HSx.out.step hX)
            clear b0 b1 e0 e1 hX HS HSx
            have b2 := HS1.out.cell (k := 2) 1 rfl rfl
            have z2 := HS1.out.frz (k := 2) 1 rfl
            obtain ⟨fpn, hsn⟩ := noLine_shutv HS1.out
            have HSN := Lib.hid hsn
            clear hsn
            go_upto_region 10 with fail
            obtain ⟨Wn, hWn⟩ : ∃ Wn, X.setCell ⟨g5, 2, none⟩ (.slice none 0 0) = Wn := ⟨_, rfl⟩
            rw [hWn] at HSN ⊢
            clear hWn b2 z2 HS1
            have HW0 := Lib.hid (Pl.noLine_wf HXW.out)
            have CC := l10Step_c (Pl.noLine x) ⟨2, k, ⟨#[]⟩⟩ _ fpn Wn (HSN.out.at_ 0 rfl) (HSN.out.ndat (i := 0) rfl) ⟨by show Mm.I64 ((k : Nat) : Int); unfold Mm.I64; omega, Nat.zero_le _⟩ HW0.out
            have HW1 := Lib.hid (HW0.out.step ⟨2, k, ⟨#[]⟩⟩)
            have HW2 := Lib.hid (HW1.out.step ⟨3, 0, ⟨#[]⟩⟩)
            have HI0 : Hid (Mm.I64 0) := Lib.hid (by unfold Mm.I64; omega)
            obtain ⟨y1, hy1⟩ : ∃ y1, (Pl.tstep (Pl.noLine x) ⟨2, k, ⟨#[]⟩⟩).1 = y1 := ⟨_, rfl⟩
            unfold TellAns2 at CC
            rw [hy1] at HW1 HW2 CC
            obtain ⟨y2, hy2⟩ : ∃ y2, (Pl.tstep y1 ⟨3, 0, ⟨#[]⟩⟩).1 = y2 := ⟨_, rfl⟩
            rw [hy2] at HW2
            obtain ⟨y3, hy3⟩ : ∃ y3, (Pl.tstep y2 ⟨3, 0, ⟨#[]⟩⟩).1 = y3 := ⟨_, rfl⟩
            have HY2 := Lib.hid hy2
            have HY3 := Lib.hid hy3
            have HYO : Hid (Pl.settleOne x k = y3) := Lib.hid (by rw [← hy3, ← hy2, ← hy1]; rfl)
            clear hy1 hy2 hy3
            have u0 := HSN.out.cell (k := 0) 1 rfl rfl
            have u1 := HSN.out.cell (k := 1) 1 rfl rfl
            have u2 := HSN.out.cell (k := 2) 1 rfl rfl
            have u3 := HSN.out.cell (k := 3) 1 rfl rfl
            have u4 := HSN.out.cell (k := 4) 1 rfl rfl
            go_wp2_with fail
            refine CC.mono ?_
            rintro e wa1 ⟨ca1, fa1, rfl, hL⟩
            have hA := HSN.out.call 0 rfl hL
            obtain ⟨a0, k0, a1, k1, a2, k2, a3, k3, a4, k4, rfl⟩ := own_form (hA.at_ 0 rfl)
            have HA' := Lib.hid hA
            clear hL hA CC u0 u1 u2 u3 u4
            have HSR := HA'
            have r0 := HA'.out.cell (k := 0) 1 rfl rfl
            have r1 := HA'.out.cell (k := 1) 1 rfl rfl
            have r2 := HA'.out.cell (k := 2) 1 rfl rfl
            have r3 := HA'.out.cell (k := 3) 1 rfl rfl
            have r4 := HA'.out.cell (k := 4) 1 rfl rfl
            have z0 := HA'.out.frz (k := 0) 1 rfl
            have z1 := HA'.out.frz (k := 1) 1 rfl
            have z2 := HA'.out.frz (k := 2) 1 rfl
            have z3 := HA'.out.frz (k := 3) 1 rfl
            have z4 := HA'.out.frz (k := 4) 1 rfl
            go_upto_region 11 with fail
            obtain ⟨wb1, hWB⟩ : ∃ wb1, ((((wa1.setCell ⟨g5, 0, none⟩ (.slice a0 y1.Texts.length k0)).setCell ⟨g5, 1, none⟩ (.slice a1 y1.Heard.length k1)).setCell ⟨g5, 2, none⟩ (.slice a2 y1.Line.length k2)).setCell ⟨g5, 3, none⟩ (.slice a3 y1.Log.length k3)).setCell ⟨g5, 4, none⟩ (.slice a4 y1.Next.length k4) = wb1 := ⟨_, rfl⟩
            have HSA := Lib.hid ((((((HA'.out.setBlk (k := 0) 1 rfl (.slice a0 y1.Texts.length k0)).setBlk (k := 1) 1 rfl (.slice a1 y1.Heard.length k1)).setBlk (k := 2) 1 rfl (.slice a2 y1.Line.length k2)).setBlk (k := 3) 1 rfl (.slice a3 y1.Log.length k3)).setBlk (k := 4) 1 rfl (.slice a4 y1.Next.length k4)).atW hWB)
            rw [hWB]
            clear hWB HSR HA' HSN r0 r1 r2 r3 r4 z0 z1 z2 z3 z4
            have CC := l10Step_c y1 ⟨3, 0, ⟨#[]⟩⟩ _ _ wb1 (HSA.out.at_ 0 rfl) (HSA.out.ndat (i := 0) rfl) ⟨HI0.out, Nat.zero_le _⟩ HW1.out
            unfold TellAns2 at CC
            rw [HY2.out] at CC
            have u0 := HSA.out.cell (k := 0) 1 rfl rfl
            have u1 := HSA.out.cell (k := 1) 1 rfl rfl
            have u2 := HSA.out.cell (k := 2) 1 rfl rfl
            have u3 := HSA.out.cell (k := 3) 1 rfl rfl
            have u4 := HSA.out.cell (k := 4) 1 rfl rfl
            go_wp2_with fail
            refine CC.mono ?_
            rintro e wa2 ⟨ca2, fa2, rfl, hL⟩
            have hA := HSA.out.call 0 rfl hL
            obtain ⟨a0, k0, a1, k1, a2, k2, a3, k3, a4, k4, rfl⟩ := own_form (hA.at_ 0 rfl)
            have HA' := Lib.hid hA
            clear hL hA CC u0 u1 u2 u3 u4
            have HSR := HA'
            have r0 := HA'.out.cell (k := 0) 1 rfl rfl
            have r1 := HA'.out.cell (k := 1) 1 rfl rfl
            have r2 := HA'.out.cell (k := 2) 1 rfl rfl
            have r3 := HA'.out.cell (k := 3) 1 rfl rfl
            have r4 := HA'.out.cell (k := 4) 1 rfl rfl
            have z0 := HA'.out.frz (k := 0) 1 rfl
            have z1 := HA'.out.frz (k := 1) 1 rfl
            have z2 := HA'.out.frz (k := 2) 1 rfl
            have z3 := HA'.out.frz (k := 3) 1 rfl
            have z4 := HA'.out.frz (k := 4) 1 rfl
            go_upto_region 12 with fail
            obtain ⟨wb2, hWB⟩ : ∃ wb2, ((((wa2.setCell ⟨g5, 0, none⟩ (.slice a0 y2.Texts.length k0)).setCell ⟨g5, 1, none⟩ (.slice a1 y2.Heard.length k1)).setCell ⟨g5, 2, none⟩ (.slice a2 y2.Line.length k2)).setCell ⟨g5, 3, none⟩ (.slice a3 y2.Log.length k3)).setCell ⟨g5, 4, none⟩ (.slice a4 y2.Next.length k4) = wb2 := ⟨_, rfl⟩
            have HSB := Lib.hid ((((((HA'.out.setBlk (k := 0) 1 rfl (.slice a0 y2.Texts.length k0)).setBlk (k := 1) 1 rfl (.slice a1 y2.Heard.length k1)).setBlk (k := 2) 1 rfl (.slice a2 y2.Line.length k2)).setBlk (k := 3) 1 rfl (.slice a3 y2.Log.length k3)).setBlk (k := 4) 1 rfl (.slice a4 y2.Next.length k4)).atW hWB)
            rw [hWB]
            clear hWB HSR HA' HSA r0 r1 r2 r3 r4 z0 z1 z2 z3 z4
            have CC := l10Step_c y2 ⟨3, 0, ⟨#[]⟩⟩ _ _ wb2 (HSB.out.at_ 0 rfl) (HSB.out.ndat (i := 0) rfl) ⟨HI0.out, Nat.zero_le _⟩ HW2.out
            unfold TellAns2 at CC
            rw [HY3.out] at CC
            have u0 := HSB.out.cell (k := 0) 1 rfl rfl
            have u1 := HSB.out.cell (k := 1) 1 rfl rfl
            have u2 := HSB.out.cell (k := 2) 1 rfl rfl
            have u3 := HSB.out.cell (k := 3) 1 rfl rfl
            have u4 := HSB.out.cell (k := 4) 1 rfl rfl
            go_wp2_with fail
            refine CC.mono ?_
            rintro e wa3 ⟨ca3, fa3, rfl, hL⟩
            have hA := HSB.out.call 0 rfl hL
            obtain ⟨a0, k0, a1, k1, a2, k2, a3, k3, a4, k4, rfl⟩ := own_form (hA.at_ 0 rfl)
            have HA' := Lib.hid hA
            clear hL hA CC u0 u1 u2 u3 u4
            have HSR := HA'
            have r0 := HA'.out.cell (k := 0) 1 rfl rfl
            have r1 := HA'.out.cell (k := 1) 1 rfl rfl
            have r2 := HA'.out.cell (k := 2) 1 rfl rfl
            have r3 := HA'.out.cell (k := 3) 1 rfl rfl
            have r4 := HA'.out.cell (k := 4) 1 rfl rfl
            have z0 := HA'.out.frz (k := 0) 1 rfl
            have z1 := HA'.out.frz (k := 1) 1 rfl
            have z2 := HA'.out.frz (k := 2) 1 rfl
            have z3 := HA'.out.frz (k := 3) 1 rfl
            have z4 := HA'.out.frz (k := 4) 1 rfl
            go_upto_region 13 with fail
            obtain ⟨wb3, hWB⟩ : ∃ wb3, ((((wa3.setCell ⟨g5, 0, none⟩ (.slice a0 y3.Texts.length k0)).setCell ⟨g5, 1, none⟩ (.slice a1 y3.Heard.length k1)).setCell ⟨g5, 2, none⟩ (.slice a2 y3.Line.length k2)).setCell ⟨g5, 3, none⟩ (.slice a3 y3.Log.length k3)).setCell ⟨g5, 4, none⟩ (.slice a4 y3.Next.length k4) = wb3 := ⟨_, rfl⟩
            have HSC := Lib.hid ((((((HA'.out.setBlk (k := 0) 1 rfl (.slice a0 y3.Texts.length k0)).setBlk (k := 1) 1 rfl (.slice a1 y3.Heard.length k1)).setBlk (k := 2) 1 rfl (.slice a2 y3.Line.length k2)).setBlk (k := 3) 1 rfl (.slice a3 y3.Log.length k3)).setBlk (k := 4) 1 rfl (.slice a4 y3.Next.length k4)).atW hWB)
            rw [hWB]
            clear hWB HSR HA' HSB r0 r1 r2 r3 r4 z0 z1 z2 z3 z4
            rw [HYO.out] at HF1 HSO
            go_wp2
            go_roundg f
            case measure => omega
            case rel => exact ⟨f, y3, fa3, c + 1, a0, k0, a1, k1, a2, k2, a3, k3, a4, k4, Nat.le_refl _, rfl, by omega, by omega, Lib.hid ⟨HF1.out, by
              have h1 := HSO.out.2.2.2
              have h2 : Pl.tAt y3 (k : Int) = Pl.tAt x k := by unfold Pl.tAt; rw [HSO.out.2.2.1]
              rw [h2, HYT.out]
              rw [HAI.out] at h1
              omega, HSO.out.1, HSO.out.2.1, HSO.out.2.2.1.trans HXT.out, HSC.out⟩⟩
          · have u1' : decide (a < ((ys.length : Nat) : Int)) = false := by simp; omega
            have HF1 : Hid (Pl.settleTo t (k + 1) = (x, c)) := Lib.hid (by
              rw [← HFE.out]
              cases f with
              | zero => rfl
              | succ f =>
                show (if Pl.iAt x.Heard k < (Pl.tAt x k).length then _ else _) = _
                rw [if_neg (by rw [HYT.out, HAI.out]; exact hlen)])
            go_wp2
            refine wp_region_und (by kernel_rfl) (by kernel_rfl) ?_
            repeat (go_big_quiet_step ((first | fail)))
            refine wpQuiet_nil ?_
            intro X hX
            have HS1 := Lib.hid (HSx.out.step hX)
            clear b0 b1 e0 e1 hX
            go_wp2
            go_roundg (n - (k + 1))
            case measure => omega
            case rel => exact ⟨k + 1, _, c, _, _, _, _, _, _, _, _, _, _, Nat.le_refl _, by omega, rfl, by go_num, Lib.hid ⟨by rw [HF1.out], x, by rw [HF1.out], HS1.out⟩⟩
      · obtain rfl : n = k := by omega
        have f1 : ¬ ((n : Nat) : Int) < ((n : Nat) : Int) := by omega
        have HWK := Lib.hid HOK.out.1
        rw [← HXK.out] at HWK
        have HS := HSk
        have u0 := HS.out.cell (k := 0) 1 rfl rfl
        have u1 := HS.out.cell (k := 1) 1 rfl rfl
        have u2 := HS.out.cell (k := 2) 1 rfl rfl
        have u3 := HS.out.cell (k := 3) 1 rfl rfl
        have u4 := HS.out.cell (k := 4) 1 rfl rfl
        go_wp2_with (go_at_call 51; refine (l10Own_c xk _ Wo Wo.heap.size (HS.out.rd 0 rfl) (Nat.le_refl _) HWK.out.sz).mono ?_; rintro e w5 ⟨cs5, fp5, rfl, ho, hnd, hnew, hb5⟩; obtain ⟨A10, c10, A11, c11, A12, c12, A13, c13, A14, c14, rfl⟩ := own_form ho; (have HSR := Lib.hid (HS.out.add hb5 (t := Mm.tow rTell xk _ _) ho hnd hnew)); clear ho hnd hnew hb5; (have r0 := HSR.out.cell (k := 0) 3 rfl rfl); (have r1 := HSR.out.cell (k := 1) 3 rfl rfl); (have r2 := HSR.out.cell (k := 2) 3 rfl rfl); (have r3 := HSR.out.cell (k := 3) 3 rfl rfl); (have r4 := HSR.out.cell (k := 4) 3 rfl rfl); (have z0 := HSR.out.frz (k := 0) 3 rfl); (have z1 := HSR.out.frz (k := 1) 3 rfl); (have z2 := HSR.out.frz (k := 2) 3 rfl); (have z3 := HSR.out.frz (k := 3) 3 rfl); (have z4 := HSR.out.frz (k := 4) 3 rfl))
        have HSF := Lib.hid (((((HSR.out.setBlk (k := 0) 3 rfl (.slice A10 xk.Texts.length c10)).setBlk (k := 1) 3 rfl (.slice A11 xk.Heard.length c11)).setBlk (k := 2) 3 rfl (.slice A12 xk.Line.length c12)).setBlk (k := 3) 3 rfl (.slice A13 xk.Log.length c13)).setBlk (k := 4) 3 rfl (.slice A14 xk.Next.length c14))
        have q0 := HSF.out.cell (k := 0) 3 rfl rfl
        have q1 := HSF.out.cell (k := 1) 3 rfl rfl
        have q2 := HSF.out.cell (k := 2) 3 rfl rfl
        have q3 := HSF.out.cell (k := 3) 3 rfl rfl
        have q4 := HSF.out.cell (k := 4) 3 rfl rfl
        rw [HF.out, ← HC.out, ← HXK.out]
        exact bodyPost_ret (v := .tuple #[.agg #[.slice A10 xk.Texts.length c10, .slice A11 xk.Heard.length c11, .slice A12 xk.Line.length c12, .slice A13 xk.Log.length c13, .slice A14 xk.Next.length c14], .int .i64 c, .bool true]) (by simp [results, Try.results22, go_sem, q0, q1, q2, q3, q4]) rfl ⟨_, _, rfl, HSF.out.sel [0] (by decide) rfl⟩
end Go.Proofs.Ytaepohocabealaa

/-
  Contracts: drawn steps of a teller (chapter 10). No conditions.
-/
namespace Go.Proofs.Ytaepohocabealaa
open Go.RowKit
attribute [local go_sem] und_cell World.cell?_alloc_some
theorem Try.infoStep : (Try.prog.info? 46).map (fun i => (i.zero, i.size, i.bytes)) = some (some (.agg #[.int .i64 0, .int .i64 0, .string ⟨#[]⟩]), 3, 32) := by kernel_rfl
set_option maxRecDepth 100000 in
set_option maxHeartbeats 4000000 in
theorem tellSteps_c (code : List Int) (A : Option Addr) (n c g K : Nat) (q : Int) (w : World) (B : Nat) (hc : Mm.SlAt Mm.u8 w B code A n c) (hBg : B ≤ g) (h : (Mm.tcur 85 A n c g K).holds w) (hK : K < 4611686018427380000) (hq : 1 ≤ q ∧ q ≤ 4) :
    Calls Try.prog 46 #[.pointer (some ⟨g, 0, none⟩), .int .i64 q] w fun e w' => ∃ (l : List TellStep) (A1 : Option Addr) (n1 c1 : Nat) (fp : List Nat), e = .returned (.slice A1 n1 c1) ∧ l.length ≤ 151 ∧ Mm.SepF [g] w w' [Mm.tsl rTellStep 46 l (.slice A1 n1 c1) fp, Mm.tcur 85 A n c g (K + 2000)] := by
  have hgw : g < w.heap.size := (Mm.tcur 85 A n c g K).lt h g (by simp [Mm.tcur])
  have HC := Lib.hid hc
  have HS : Hid (Mm.SepF [g] w w [Mm.tcur 85 A n c g K]) := Mm.SepF.one (Mm.tcur 85 A n c g K) w h (by simp [Mm.tcur])
  clear hc h
  go_enter Try.func46, Try.ntmps46
  go_upto_if 11 with first
    | ((go_at_call 45); (refine (pick_c code A n c g _ _ _ B (HC.out.keep fun b hb => HS.out.chg.block b (by omega) (by simp; omega)) hBg (HS.out.at_ 0 rfl) (by omega) (by omega)).mono ?_); (rintro e w1 ⟨b1, rfl, b10, b1x, b11, hL⟩); ((have HS := Lib.hid (HS.out.call 0 rfl hL))); (clear hL))
    | ((go_at_call 87); (refine (one_c code A n c g _ _ _ B (HC.out.keep fun b hb => HS.out.chg.block b (by omega) (by simp; omega)) hBg (HS.out.at_ 0 rfl) (by omega) (by omega)).mono ?_); (rintro e w1 ⟨b9, rfl, hL⟩); ((have HS := Lib.hid (HS.out.call 0 rfl hL))); (clear hL))
  have b12 := b11 (by omega)
  clear b11
  go_cut [6] (fun s6 wx => ∃ m : Int, s6 = .int .i64 m ∧ 0 ≤ m ∧ m ≤ 151 ∧ Mm.SepF [g] w wx [Mm.tcur 85 A n c g (K + 3)])
  case first =>
    cases b9
    · go_wp2_with fail
      go_meet
      exact ⟨_, rfl, b10, by omega, HS.out.more 0 rfl (by omega)⟩
    · go_wp2_with ((go_at_call 45); (refine (pick_c code A n c g _ _ _ B (HC.out.keep fun b hb => HS.out.chg.block b (by omega) (by simp; omega)) hBg (HS.out.at_ 0 rfl) (by omega) (by omega)).mono ?_); (rintro e w1 ⟨b2, rfl, b20, b2x, b21, hL⟩); ((have HS := Lib.hid (HS.out.call 0 rfl hL))); (clear hL); have b22 := b21 (by omega))
      go_meet
      exact ⟨_, rfl, by omega, by omega, HS.out.more 0 rfl (by omega)⟩
  case rest =>
  obtain ⟨m, rfl, hm0, hm1, HS⟩ := hcut
  have HS := Lib.hid ((HS.add (Below.refl _ _) (t := Mm.tsl rTellStep 46 [] (.slice none 0 0) []) Mm.SlOwn.nil List.nodup_nil (fun b hb => by cases hb)))
  go_wp2_with fail
  go_loopg [5, 6] 151 (fun gg l nn wr => ∃ (k mm : Nat) (ls : List TellStep) (A1 : Option Addr) (c1 : Nat) (fp : List Nat) (Kc : Nat), k ≤ gg ∧ nn = .int .i64 k ∧ Hid (mm = ls.length) ∧ k + mm ≤ 151 ∧ l = .slice A1 mm c1 ∧ Kc + 10 * k ≤ K + 1600 ∧ Hid (Mm.SepF [g] w wr [Mm.tsl rTellStep 46 ls (.slice A1 mm c1) fp, Mm.tcur 85 A n c g Kc]))
  case atStart => exact ⟨m.toNat, 0, [], none, 0, [], K + 3, by omega, by rw [Int.toNat_of_nonneg hm0], rfl, by omega, rfl, by omega, HS⟩
  case round =>
    obtain ⟨k, mm, ls, A1, c1, fp, Kc, hkg, rfl, hml, hkm, rfl, hKc, HS⟩ := hrel
    obtain ⟨Wr, rfl⟩ : ∃ Wr : World, Wr = wr := ⟨_, rfl⟩
    by_cases hk0 : 0 < k
    · have hk1 : (0 : Int) < (k : Nat) := by omega
      have HA := Lib.hid (HS.out.alloc' rfl 3 [.int .i64 1, .int .i64 1, .int .i64 2, .int .i64 2, .int .i64 2, .int .i64 3, .int .i64 3, .int .i64 3, .int .i64 3, .int .i64 4, .int .i64 5])
      have hgW : g < Wr.heap.size := Nat.lt_of_lt_of_le hgw HS.out.chg.size
      go_upto_block 2 with (go_at_call 61; refine (among_c code A n c g _ [1, 1, 2, 2, 2, 3, 3, 3, 3, 4, 5] Wr.heap.size 11 _ B (HC.out.keep fun b hb => HA.out.chg.block b (by omega) (by simp; omega)) hBg (HA.out.at_ 2 rfl) (by omega) (HA.out.at_ 0 rfl) (by omega) rfl (by omega) (by omega)).mono ?_; rintro e w1 ⟨v, rfl, hv, hL⟩; (have HS := Lib.hid ((HA.out.call 2 rfl hL).tail)); clear hL HA)
      obtain ⟨gs, hgs⟩ : ∃ gs, w1.heap.size = gs := ⟨_, rfl⟩
      obtain ⟨W2, hW2⟩ : ∃ W2, w1.alloc (.cells #[.int .i64 v, .int .i64 0, .string ⟨#[]⟩] 46) = W2 := ⟨_, rfl⟩
      have HSA := Lib.hid ((HS.out.alloc' hgs 46 [.int .i64 v, .int .i64 0, .string ⟨#[]⟩]).atW hW2)
      have hgsg : g < gs := by have := HS.out.chg.size; omega
      rw [hW2, hgs]
      have hvi : Mm.I64 v := by simp only [List.mem_cons, List.not_mem_nil, or_false] at hv; unfold Mm.I64; omega
      have HVI := Lib.hid hvi
      clear hW2 hgs hvi hv
      go_cut [] (fun wx => ∃ (kk : Int) (tx : ByteArray), Mm.I64 kk ∧ tx.size ≤ 24 ∧ Mm.SepF [g] w wx [Mm.tblk gs 46 [.int .i64 v, .int .i64 kk, .string tx], Mm.tsl rTellStep 46 ls (.slice A1 mm c1) fp, Mm.tcur 85 A n c g (Kc + 3)])
      case first =>
        by_cases h1 : v = 1
        · subst h1
          go_wp2_with fail
          refine (pick_c code A n c g _ _ _ B (HC.out.keep fun b hb => HSA.out.chg.block b (by omega) (by simp; omega)) hBg (HSA.out.at_ 2 rfl) (by omega) (by omega)).mono ?_
          rintro e w3 ⟨b2, rfl, b20, b2x, b21, hL⟩
          have HS2 := Lib.hid (HSA.out.call 2 rfl hL)
          clear hL
          have z1 := HS2.out.frz (k := 1) 0 rfl
          have c1' := HS2.out.cell (k := 1) 0 rfl rfl
          go_upto_region 12 with fail
          obtain ⟨W4, hW4⟩ : ∃ W4, w3.setCell ⟨gs, 1, none⟩ (.int .i64 b2) = W4 := ⟨_, rfl⟩
          have HS3 := Lib.hid ((HS2.out.setBlk (k := 1) 0 rfl (.int .i64 b2)).atW hW4)
          rw [hW4]
          clear hW4 z1 c1'
          have HA := Lib.hid (HS3.out.alloc' rfl 9 [.string ⟨#[97]⟩, .string ⟨#[98]⟩, .string ⟨#[99]⟩, .string ⟨#[]⟩])
          go_wp2_with fail
          refine (of_c code A n c g _ [⟨#[97]⟩, ⟨#[98]⟩, ⟨#[99]⟩, ⟨#[]⟩] _ 4 _ B (HC.out.keep fun b hb => HA.out.chg.block b (by omega) (by simp; omega)) hBg (HA.out.at_ 3 rfl) (by omega) (HA.out.at_ 0 rfl) (by have := HS3.out.chg.size; omega) rfl (by omega) (by omega)).mono ?_
          rintro e w5 ⟨tx, rfl, htx, hL⟩
          have HS5 := Lib.hid ((HA.out.call 3 rfl hL).tail)
          clear hL HA
          have htx2 : tx.size ≤ 24 := by simp only [List.mem_cons, List.not_mem_nil, or_false] at htx; rcases htx with h | h | h | h <;> (rw [h]; decide)
          clear htx
          have z2 := HS5.out.frz (k := 2) 0 rfl
          have c2' := HS5.out.cell (k := 2) 0 rfl rfl
          go_wp2_with fail
          go_meet
          exact ⟨b2, tx, by unfold Mm.I64; omega, htx2, (HS5.out.setBlk (k := 2) 0 rfl (.string tx)).more 2 rfl (by omega)⟩
        · have n1 : (v == 1) = false := by simpa using h1
          have H1 := Lib.hid h1
          clear h1
          by_cases h2 : v = 2
          · subst h2
            go_wp2_with fail
            refine (pick_c code A n c g _ _ _ B (HC.out.keep fun b hb => HSA.out.chg.block b (by omega) (by simp; omega)) hBg (HSA.out.at_ 2 rfl) (by omega) (by omega)).mono ?_
            rintro e w3 ⟨b2, rfl, b20, b2x, b21, hL⟩
            have HS2 := Lib.hid (HSA.out.call 2 rfl hL)
            clear hL
            have z1 := HS2.out.frz (k := 1) 0 rfl
            have c1' := HS2.out.cell (k := 1) 0 rfl rfl
            go_wp2_with fail
            go_meet
            exact ⟨b2, ⟨#[]⟩, by unfold Mm.I64; omega, by decide, (HS2.out.setBlk (k := 1) 0 rfl (.int .i64 b2)).more 2 rfl (by omega)⟩
          · have n2 : (v == 2) = false := by simpa using h2
            have H2 := Lib.hid h2
            clear h2
            go_wp2_with fail
            refine (pick_c code A n c g _ _ _ B (HC.out.keep fun b hb => HSA.out.chg.block b (by omega) (by simp; omega)) hBg (HSA.out.at_ 2 rfl) (by omega) (by omega)).mono ?_
            rintro e w3 ⟨b2, rfl, b20, b2x, b21, hL⟩
            have HS2 := Lib.hid (HSA.out.call 2 rfl hL)
            clear hL
            have z1 := HS2.out.frz (k := 1) 0 rfl
            have c1' := HS2.out.cell (k := 1) 0 rfl rfl
            go_wp2_with fail
            go_meet
            exact ⟨b2, ⟨#[]⟩, by unfold Mm.I64; omega, by decide, (HS2.out.setBlk (k := 1) 0 rfl (.int .i64 b2)).more 2 rfl (by omega)⟩
      case rest =>
        obtain ⟨kk, tx, hkk, htx, HS⟩ := hcut
        have HKK := Lib.hid hkk
        clear hkk
        have HS := Lib.hid HS
        go_upto_if 45 with ((go_at_call 87); (refine (one_c code A n c g _ _ _ B (HC.out.keep fun b hb => HS.out.chg.block b (by omega) (by simp; omega)) hBg (HS.out.at_ 2 rfl) (by omega) (by omega)).mono ?_); (rintro e w1 ⟨b9, rfl, hL⟩); ((have HS := Lib.hid (HS.out.call 2 rfl hL))); (clear hL))
        go_cut [] (fun wx => ∃ (kd kk : Int) (tx : ByteArray), Mm.I64 kd ∧ Mm.I64 kk ∧ tx.size ≤ 25 ∧ Mm.SepF [g] w wx [Mm.tblk gs 46 [.int .i64 kd, .int .i64 kk, .string tx], Mm.tsl rTellStep 46 ls (.slice A1 mm c1) fp, Mm.tcur 85 A n c g (Kc + 8)])
        case first =>
          cases b9
          · go_wp2_with fail
            go_meet
            exact ⟨v, kk, tx, HVI.out, HKK.out, by omega, HS.out.more 2 rfl (by omega)⟩
          · go_wp2_with fail
            refine (pick_c code A n c g _ _ _ B (HC.out.keep fun b hb => HS.out.chg.block b (by omega) (by simp; omega)) hBg (HS.out.at_ 2 rfl) (by omega) (by omega)).mono ?_
            rintro e w3 ⟨b3, rfl, b30, b3x, b31, hL⟩
            have HS3 := Lib.hid (HS.out.call 2 rfl hL)
            clear hL
            go_wp2_with fail
            refine (pick_c code A n c g _ _ _ B (HC.out.keep fun b hb => HS3.out.chg.block b (by omega) (by simp; omega)) hBg (HS3.out.at_ 2 rfl) (by omega) (by omega)).mono ?_
            rintro e w4 ⟨b4, rfl, b40, b4x, b41, hL⟩
            have HS4 := Lib.hid (HS3.out.call 2 rfl hL)
            clear hL
            have hw4 : IntKind.i64.wrap (b4 - 1) = b4 - 1 := IntWalk.i64_in _ (by omega)
            have HA := Lib.hid (HS4.out.alloc' rfl 9 [.string ⟨#[]⟩, .string ⟨#[97, 32, 114, 101, 99, 111, 114, 100, 32, 116, 104, 97, 116, 32, 105, 115, 32, 116, 111, 111, 32, 108, 111, 110, 103]⟩])
            go_wp2_with fail
            refine (of_c code A n c g _ [⟨#[]⟩, ⟨#[97, 32, 114, 101, 99, 111, 114, 100, 32, 116, 104, 97, 116, 32, 105, 115, 32, 116, 111, 111, 32, 108, 111, 110, 103]⟩] _ 2 _ B (HC.out.keep fun b hb => HA.out.chg.block b (by omega) (by simp; omega)) hBg (HA.out.at_ 3 rfl) (by omega) (HA.out.at_ 0 rfl) (by have := HS4.out.chg.size; omega) rfl (by omega) (by omega)).mono ?_
            rintro e w5 ⟨tx', rfl, htx', hL⟩
            have HS5 := Lib.hid ((HA.out.call 3 rfl hL).tail)
            clear hL HA
            have htx2 : tx'.size ≤ 25 := by simp only [List.mem_cons, List.not_mem_nil, or_false] at htx'; rcases htx' with h | h <;> (rw [h]; decide)
            clear htx'
            have s0 := HS5.out.cell (k := 0) 0 rfl rfl
            have s1 := HS5.out.cell (k := 1) 0 rfl rfl
            have s2 := HS5.out.cell (k := 2) 0 rfl rfl
            have z0 := HS5.out.frz (k := 0) 0 rfl
            have z1 := HS5.out.frz (k := 1) 0 rfl
            have z2 := HS5.out.frz (k := 2) 0 rfl
            go_wp2_with fail
            go_meet
            exact ⟨b3, b4 - 1, tx', by unfold Mm.I64; omega, by unfold Mm.I64; omega, htx2, (((HS5.out.setBlk (k := 0) 0 rfl (.int .i64 b3)).setBlk (k := 1) 0 rfl (.int .i64 (b4 - 1))).setBlk (k := 2) 0 rfl (.string tx')).more 2 rfl (by omega)⟩
        case rest =>
          obtain ⟨kd, kk, tx, hkd, hkk, htx, HS⟩ := hcut
          have HKD := Lib.hid (And.intro hkd hkk)
          clear hkd hkk
          have HS := Lib.hid HS
          have s0 := HS.out.cell (k := 0) 0 rfl rfl
          have s1 := HS.out.cell (k := 1) 0 rfl rfl
          have s2 := HS.out.cell (k := 2) 0 rfl rfl
          have hts : tx.size ≤ maxLen := by unfold maxLen; omega
          have HTS := Lib.hid hts
          clear hts
          obtain ⟨i0, hi, hz0, hz1, hz2⟩ := info_parts Try.infoStep
          go_wp2_with (at_builtin; refine Mm.app_list (x := (⟨kd, kk, tx⟩ : TellStep)) HS.out 1 rfl rfl (.tmp 55) (.tmp 57) 23 rfl i0 _ 32 Try.underlying23 hi hz0 hz1 hz2 rfl (by decide) rfl rfl (fun W => rTellStep_own_mk (x := ⟨kd, kk, tx⟩) ⟨HKD.out.1, HKD.out.2, HTS.out⟩) hml.out.symm (by unfold maxLen; omega) (by omega) ?_; intro ga cap w' fp' hs; (have HS4 := Lib.hid hs); clear hs)
          go_roundg (k - 1)
          case measure => omega
          case rel => exact ⟨k - 1, mm + 1, _, _, cap, fp', Kc + 8, Nat.le_refl _, by go_num, by show _ = _; rw [List.length_append, hml.out]; rfl, by omega, rfl, by omega, HS4.out.sel [1, 2] (by decide) rfl⟩
    · have hk1 : ¬ (0 : Int) < (k : Nat) := by omega
      go_wp2
      go_ret
      first
        | exact ⟨ls, _, _, _, fp, rfl, by rw [← hml.out]; omega, HS.out.more 1 rfl (by omega)⟩
        | exact ⟨ls, _, _, _, rfl, by rw [← hml.out]; omega, fp, HS.out.more 1 rfl (by omega)⟩
end Go.Proofs.Ytaepohocabealaa

/-
  Contracts: drawn plays of a teller; what is written of a teller; the small functions of chapter 10's laws. No conditions.
-/
namespace Go.Proofs.Ytaepohocabealaa
open Go.RowKit
attribute [local go_sem] und_cell cha_cell World.cell?_alloc_some
def DrawnPlay (w : World) (e : Ending) (w' : World) : Prop := ∃ (l : List TellStep) (A1 : Option Addr) (n1 c1 : Nat) (k : Int), e = .returned (.tuple #[.int .i64 k, .slice A1 n1 c1]) ∧ 1 ≤ k ∧ k ≤ 3 ∧ l.length ≤ 151 ∧ Mm.SlAt rTellStep w' w'.heap.size l A1 n1 c1 ∧ Below w.heap.size w w'
set_option maxRecDepth 100000 in
theorem DrawPlayTell_c (code : List Int) (A : Option Addr) (n c : Nat) (w : World) (B : Nat) (hc : Mm.SlAt Mm.u8 w B code A n c) (hB : B ≤ w.heap.size) :
    Calls Try.prog 8 #[.slice A n c] w (DrawnPlay w) := by
  have hg0 : (Mm.tcur 85 A n c w.heap.size 0).holds (w.alloc (.cells #[.slice A n c, .int .i64 0, .int .u64 0] 85)) := ⟨0, 0, Mm.Blk.new w 85 [.slice A n c, .int .i64 0, .int .u64 0], by omega, by omega⟩
  have HC := Lib.hid (hc.keep (w' := w.alloc (.cells #[.slice A n c, .int .i64 0, .int .u64 0] 85)) fun b hb => (below_new (Below.refl _ w) _).block b (by omega))
  have hsw : (w.alloc (.cells #[.slice A n c, .int .i64 0, .int .u64 0] 85)).heap.size = w.heap.size + 1 := Mm.sz1 _ _
  have HS : Hid (Mm.SepF [w.heap.size] (w.alloc (.cells #[.slice A n c, .int .i64 0, .int .u64 0] 85)) (w.alloc (.cells #[.slice A n c, .int .i64 0, .int .u64 0] 85)) [Mm.tcur 85 A n c w.heap.size 0]) := Mm.SepF.one (Mm.tcur 85 A n c w.heap.size 0) _ hg0 (by simp [Mm.tcur])
  obtain ⟨g, hg⟩ : ∃ g, w.heap.size = g := ⟨_, rfl⟩
  rw [hg] at HS hB hsw
  clear hc hg0
  go_enter Try.func8, Try.ntmps8
  go_wp2_with first
    | (go_at_call 45; refine (pick_c code A n c g _ _ _ B (HC.out.keep fun b hb => HS.out.chg.block b (by omega) (by simp; omega)) hB (HS.out.at_ 0 rfl) (by omega) (by omega)).mono ?_; rintro e w1 ⟨b1, rfl, b10, -, b11, hL⟩; (have HS := Lib.hid (HS.out.call 0 rfl hL)); have b11 := b11 (by omega); clear hL)
    | (go_at_call 46; refine (tellSteps_c code A n c g _ _ _ B (HC.out.keep fun b hb => HS.out.chg.block b (by omega) (by simp; omega)) hB (HS.out.at_ 0 rfl) (by omega) (by omega)).mono ?_; rintro e w1 ⟨l, A1, n1, c1, fp, rfl, hl, hS⟩; have hch := (HS.out.chg).trans hS.chg)
  go_ret2
  refine ⟨l, _, _, _, _, rfl, by omega, by omega, hl, (hS.sl 0 rfl).weak (hS.sl 0 rfl).olt, ?_⟩
  rw [hg]
  exact Mm.Below.chg (hg ▸ below_new (Below.refl _ w) _) hch (by rw [Mm.sz1]; omega) (by simp)
theorem implGoodTell_c (t : Tell) (cs : List Value) (w : World) (B : Nat) (hh : rTell.at_ w B t cs) (hB : B ≤ w.heap.size) :
    Calls Try.prog 14 #[.agg cs.toArray] w fun e w' => e = .returned (.bool (Pl.goodTell t)) ∧ Below w.heap.size w w' := by
  obtain ⟨A0, n0, c0, A1, n1, c1, A2, n2, c2, A3, n3, c3, A4, n4, c4, rfl, -⟩ := rTell_at hh
  have HS := Lib.hid ((Mm.SepF.start w).alloc' rfl 31 [.slice A0 n0 c0, .slice A1 n1 c1, .slice A2 n2 c2, .slice A3 n3 c3, .slice A4 n4 c4])
  have HR := Lib.hid (rTell.keep hh (w' := w.alloc (.cells #[.slice A0 n0 c0, .slice A1 n1 c1, .slice A2 n2 c2, .slice A3 n3 c3, .slice A4 n4 c4] 31)) fun b hb => HS.out.bel0.block b (by omega))
  have hB2 := Nat.le_trans hB HS.out.chg.size
  clear hh
  go_enter Try.func14, Try.ntmps14
  go_wp2_with (go_at_call 53; refine (isTell_c t _ _ B HR.out hB2).mono ?_; rintro e w1 ⟨rfl, hb1⟩)
  go_ret
  exact ⟨rfl, below_step HS.out.bel0 hb1⟩
end Go.Proofs.Ytaepohocabealaa

/-
  Contracts: NewTell, the program's; drawn numbers of chapter 10. No conditions.
-/
namespace Go.Proofs.Ytaepohocabealaa
open Go.RowKit
attribute [local go_sem] und_cell cha_cell World.cell?_alloc_some
set_option maxRecDepth 100000 in
set_option maxHeartbeats 1000000 in
theorem implNewTell_c (m : Int) (w : World) : Calls Try.prog 27 #[.int .i64 m] w (Mm.Ret2 rTell w (Pl.newTell m).1 (Pl.newTell m).2) := by
  obtain ⟨g, hg⟩ : ∃ g, w.heap.size = g := ⟨_, rfl⟩
  obtain ⟨W0, hW0⟩ : ∃ W0, w.alloc (.cells #[.slice none 0 0, .slice none 0 0, .slice none 0 0, .slice none 0 0, .slice none 0 0] 31) = W0 := ⟨_, rfl⟩
  have HS := Lib.hid (((Mm.SepF.start w).alloc' hg 31 zTell).atW hW0)
  obtain ⟨gi, hgi⟩ : ∃ gi, Pl.isIn m 1 4 = gi := ⟨_, rfl⟩
  have HI := Lib.hid hgi
  clear hgi
  cases gi with
  | true =>
    have hin' := Pl.isIn_iff'.1 HI.out
    have HF : Hid (Pl.newTell m = (Pl.newTe m.toNat, true)) := if_pos HI.out
    obtain ⟨n, rfl⟩ : ∃ n : Nat, m = n := ⟨m.toNat, by omega⟩
    have h1 : 1 ≤ n := by omega
    have h3 : n ≤ 4 := by omega
    clear hin'
    rw [show ((n : Nat) : Int).toNat = n by omega] at HF
    go_enter Try.func27, Try.ntmps27
    go_upto_region 1 with fail
    clear hW0
    go_wp2_with first
      | (go_at_call 47; (with_reducible refine (within_is HI.out _).mono ?_); rintro e w' ⟨rfl, rfl⟩)
      | (go_at_call 48; (with_reducible refine (newTell_c n _ h1 h3).mono ?_); rintro e w1 ⟨cs, fp, rfl, ho, hnd, hnew, hb1⟩; obtain ⟨a0, k0, a1, k1, a2, k2, a3, k3, a4, k4, rfl⟩ := own_form ho; (have HS1 := Lib.hid (HS.out.add hb1 (t := Mm.tow rTell (Pl.newTe n) _ _) ho hnd hnew)); clear ho hnd hnew hb1; (have b0 := HS1.out.cell (k := 0) 1 rfl rfl); (have b1 := HS1.out.cell (k := 1) 1 rfl rfl); (have b2 := HS1.out.cell (k := 2) 1 rfl rfl); (have b3 := HS1.out.cell (k := 3) 1 rfl rfl); (have b4 := HS1.out.cell (k := 4) 1 rfl rfl); (have z0 := HS1.out.frz (k := 0) 1 rfl); (have z1 := HS1.out.frz (k := 1) 1 rfl); (have z2 := HS1.out.frz (k := 2) 1 rfl); (have z3 := HS1.out.frz (k := 3) 1 rfl); (have z4 := HS1.out.frz (k := 4) 1 rfl))
    have HS2 := Lib.hid (((((HS1.out.setBlk (k := 0) 1 rfl (.slice a0 (Pl.newTe n).Texts.length k0)).setBlk (k := 1) 1 rfl (.slice a1 (Pl.newTe n).Heard.length k1)).setBlk (k := 2) 1 rfl (.slice a2 (Pl.newTe n).Line.length k2)).setBlk (k := 3) 1 rfl (.slice a3 (Pl.newTe n).Log.length k3)).setBlk (k := 4) 1 rfl (.slice a4 (Pl.newTe n).Next.length k4))
    have q0 := HS2.out.cell (k := 0) 1 rfl rfl
    have q1 := HS2.out.cell (k := 1) 1 rfl rfl
    have q2 := HS2.out.cell (k := 2) 1 rfl rfl
    have q3 := HS2.out.cell (k := 3) 1 rfl rfl
    have q4 := HS2.out.cell (k := 4) 1 rfl rfl
    rw [HF.out]
    exact bodyPost_ret (v := .tuple #[.agg #[.slice a0 (Pl.newTe n).Texts.length k0, .slice a1 (Pl.newTe n).Heard.length k1, .slice a2 (Pl.newTe n).Line.length k2, .slice a3 (Pl.newTe n).Log.length k3, .slice a4 (Pl.newTe n).Next.length k4], .bool true]) (by simp [results, Try.results27, go_sem, q0, q1, q2, q3, q4]) rfl (tell_ret2 HS2.out)
  | false =>
    have HF : Hid (Pl.newTell m = (Pl.zTe, false)) := if_neg (by rw [HI.out]; simp)
    go_enter Try.func27, Try.ntmps27
    go_upto_region 1 with fail
    clear hW0
    have b0 := HS.out.cell (k := 0) 0 rfl rfl
    have b1 := HS.out.cell (k := 1) 0 rfl rfl
    have b2 := HS.out.cell (k := 2) 0 rfl rfl
    have b3 := HS.out.cell (k := 3) 0 rfl rfl
    have b4 := HS.out.cell (k := 4) 0 rfl rfl
    have z0 := HS.out.frz (k := 0) 0 rfl
    have z1 := HS.out.frz (k := 1) 0 rfl
    have z2 := HS.out.frz (k := 2) 0 rfl
    have z3 := HS.out.frz (k := 3) 0 rfl
    have z4 := HS.out.frz (k := 4) 0 rfl
    go_wp2_with (go_at_call 47; (with_reducible refine (within_is HI.out _).mono ?_); rintro e w' ⟨rfl, rfl⟩)
    have HS2 := Lib.hid (((((HS.out.setBlk (k := 0) 0 rfl (.slice none 0 0)).setBlk (k := 1) 0 rfl (.slice none 0 0)).setBlk (k := 2) 0 rfl (.slice none 0 0)).setBlk (k := 3) 0 rfl (.slice none 0 0)).setBlk (k := 4) 0 rfl (.slice none 0 0))
    have q0 := HS2.out.cell (k := 0) 0 rfl rfl
    have q1 := HS2.out.cell (k := 1) 0 rfl rfl
    have q2 := HS2.out.cell (k := 2) 0 rfl rfl
    have q3 := HS2.out.cell (k := 3) 0 rfl rfl
    have q4 := HS2.out.cell (k := 4) 0 rfl rfl
    rw [HF.out]
    exact bodyPost_ret (v := .tuple #[.agg zTell.toArray, .bool false]) (by simp [results, Try.results27, go_sem, zTell, q0, q1, q2, q3, q4]) rfl ⟨zTell, [], rfl, zTe_own, List.nodup_nil, (fun b hb => by cases hb), HS2.out.bel0⟩
set_option maxRecDepth 100000 in
theorem DrawNewTell_c (code : List Int) (A : Option Addr) (n c : Nat) (w : World) (B : Nat) (hc : Mm.SlAt Mm.u8 w B code A n c) (hB : B ≤ w.heap.size) :
    Calls Try.prog 26 #[.slice A n c] w fun e w' => ∃ m : Int, e = .returned (.int .i64 m) ∧ -1 ≤ m ∧ m ≤ 5 ∧ Below w.heap.size w w' := by
  have hg0 : (Mm.tcur 85 A n c w.heap.size 0).holds (w.alloc (.cells #[.slice A n c, .int .i64 0, .int .u64 0] 85)) := ⟨0, 0, Mm.Blk.new w 85 [.slice A n c, .int .i64 0, .int .u64 0], by omega, by omega⟩
  have HC := Lib.hid (hc.keep (w' := w.alloc (.cells #[.slice A n c, .int .i64 0, .int .u64 0] 85)) fun b hb => (below_new (Below.refl _ w) _).block b (by omega))
  have hsw : (w.alloc (.cells #[.slice A n c, .int .i64 0, .int .u64 0] 85)).heap.size = w.heap.size + 1 := Mm.sz1 _ _
  have HS : Hid (Mm.SepF [w.heap.size] (w.alloc (.cells #[.slice A n c, .int .i64 0, .int .u64 0] 85)) (w.alloc (.cells #[.slice A n c, .int .i64 0, .int .u64 0] 85)) [Mm.tcur 85 A n c w.heap.size 0]) := Mm.SepF.one (Mm.tcur 85 A n c w.heap.size 0) _ hg0 (by simp [Mm.tcur])
  obtain ⟨g, hg⟩ : ∃ g, w.heap.size = g := ⟨_, rfl⟩
  rw [hg] at HS hB hsw
  clear hc hg0
  go_enter Try.func26, Try.ntmps26
  go_wp2_with (go_at_call 45; refine (pick_c code A n c g _ _ _ B (HC.out.keep fun b hb => HS.out.chg.block b (by omega) (by simp; omega)) hB (HS.out.at_ 0 rfl) (by omega) (by omega)).mono ?_; rintro e w1 ⟨b1, rfl, b10, -, b11, hL⟩; (have HS := Lib.hid (HS.out.call 0 rfl hL)); have b11 := b11 (by omega); clear hL)
  go_ret
  refine ⟨b1 - 1, by go_num, by omega, by omega, ?_⟩
  rw [hg]
  exact Mm.Below.chg (hg ▸ below_new (Below.refl _ w) _) HS.out.chg (by rw [Mm.sz1]; omega) (by simp)
set_option maxRecDepth 100000 in
theorem DrawJudgeTold_c (code : List Int) (A : Option Addr) (n c : Nat) (w : World) (B : Nat) (hc : Mm.SlAt Mm.u8 w B code A n c) (hB : B ≤ w.heap.size) :
    Calls Try.prog 23 #[.slice A n c] w fun e w' => ∃ a b : Int, e = .returned (.tuple #[.int .i64 a, .int .i64 b]) ∧ Mm.I64 a ∧ Mm.I64 b ∧ Below w.heap.size w w' := by
  have hg0 : (Mm.tcur 85 A n c w.heap.size 0).holds (w.alloc (.cells #[.slice A n c, .int .i64 0, .int .u64 0] 85)) := ⟨0, 0, Mm.Blk.new w 85 [.slice A n c, .int .i64 0, .int .u64 0], by omega, by omega⟩
  have HC := Lib.hid (hc.keep (w' := w.alloc (.cells #[.slice A n c, .int .i64 0, .int .u64 0] 85)) fun b hb => (below_new (Below.refl _ w) _).block b (by omega))
  have hsw : (w.alloc (.cells #[.slice A n c, .int .i64 0, .int .u64 0] 85)).heap.size = w.heap.size + 1 := Mm.sz1 _ _
  have HS : Hid (Mm.SepF [w.heap.size] (w.alloc (.cells #[.slice A n c, .int .i64 0, .int .u64 0] 85)) (w.alloc (.cells #[.slice A n c, .int .i64 0, .int .u64 0] 85)) [Mm.tcur 85 A n c w.heap.size 0]) := Mm.SepF.one (Mm.tcur 85 A n c w.heap.size 0) _ hg0 (by simp [Mm.tcur])
  obtain ⟨g, hg⟩ : ∃ g, w.heap.size = g := ⟨_, rfl⟩
  rw [hg] at HS hB hsw
  clear hc hg0
  go_enter Try.func23, Try.ntmps23
  go_upto_region 3 with fail
  obtain ⟨gl, hgl⟩ : ∃ gl, g + 1 = gl := ⟨_, rfl⟩
  have HA := Lib.hid (HS.out.alloc' (g := gl) (by rw [hsw, hgl]) 3 [.int .i64 (-1), .int .i64 0, .int .i64 1, .int .i64 2, .int .i64 1000, .int .i64 1001])
  have hgl2 : gl ≠ g := by omega
  go_wp2_with first
    | (go_at_call 61; refine (among_c code A n c g _ [-1, 0, 1, 2, 1000, 1001] gl 6 _ B (HC.out.keep fun b hb => HA.out.chg.block b (by omega) (by simp; omega)) hB (HA.out.at_ 1 rfl) (by omega) (HA.out.at_ 0 rfl) hgl2 rfl (by omega) (by omega)).mono ?_; rintro e w1 ⟨v1, rfl, hv1, hL⟩; (have HD := Lib.hid (HA.out.call 1 rfl hL)); clear hL)
    | (go_at_call 61; refine (among_c code A n c g _ [-1, 0, 1, 2, 1000, 1001] gl 6 _ B (HC.out.keep fun b hb => HD.out.chg.block b (by omega) (by simp; omega)) hB (HD.out.at_ 1 rfl) (by omega) (HD.out.at_ 0 rfl) hgl2 rfl (by omega) (by omega)).mono ?_; rintro e w2 ⟨v2, rfl, hv2, hL⟩; (have HE := Lib.hid (HD.out.call 1 rfl hL)); clear hL)
  go_ret2
  refine ⟨v1, v2, rfl, ?_, ?_, ?_⟩
  · simp at hv1; unfold Mm.I64; omega
  · simp at hv2; unfold Mm.I64; omega
  rw [hg]
  exact Mm.Below.chg (hg ▸ below_new (Below.refl _ w) _) HE.out.chg (by rw [Mm.sz1]; omega) (by simp)
end Go.Proofs.Ytaepohocabealaa

/-
  Plain laws: a good teller stays good. No program in sight. No conditions.
-/
namespace Go.Proofs.Ytaepohocabealaa
namespace Pl
structure GoodP (t : Tell) : Prop where
  pre : goodPre t = true
  tx : ∀ k, k < t.Texts.length → textOk t k = true
  nt : ∀ m, m ∈ t.Line → noteOk t m = true
  lg : logRun t t.Log = some t.Next
theorem good_iff {t : Tell} : goodTell t = true ↔ GoodP t := by
  unfold goodTell
  simp only [Bool.and_eq_true, decide_eq_true_eq, List.all_eq_true]
  exact ⟨fun ⟨⟨⟨h1, h2⟩, h3⟩, h4⟩ => ⟨h1, fun k hk => h2 k (List.mem_range.2 hk), h3, h4⟩, fun h => ⟨⟨⟨h.pre, fun k hk => h.tx k (List.mem_range.1 hk)⟩, h.nt⟩, h.lg⟩⟩
theorem good_pre_mk {t : Tell} (h1 : 1 ≤ t.Texts.length ∧ t.Texts.length ≤ 4) (h2 : t.Heard.length = t.Texts.length) (h3 : t.Next.length = t.Texts.length) (h4 : t.Line.length ≤ 30) : goodPre t = true := by
  unfold goodPre
  simp only [Bool.and_eq_true, decide_eq_true_eq, isIn_iff']
  omega
theorem said_same {t t' : Tell} (h : t'.Texts = t.Texts) (x : Told) : saidOk t' x = saidOk t x := by unfold saidOk sayAt tAt; rw [h]
theorem run_same {t t' : Tell} (h : t'.Texts = t.Texts) (l : List Told) : logRun t' l = logRun t l := by
  unfold logRun logStep
  simp only [said_same h, h]
theorem note_same {t t' : Tell} (h : t'.Texts = t.Texts) (h2 : t'.Next = t.Next) (m : Note) : noteOk t' m = noteOk t m := by unfold noteOk; rw [said_same h, h, h2]
theorem text_same {t t' : Tell} (h : t'.Texts = t.Texts) (h2 : t'.Next = t.Next) (h3 : t'.Heard = t.Heard) (k : Nat) : textOk t' k = textOk t k := by unfold textOk; rw [h, h2, h3]
/-- the line alone is another -/
theorem GoodP.line {t : Tell} (h : GoodP t) (l : List Note) (hl : l.length ≤ 30) (hn : ∀ m, m ∈ l → noteOk t m = true) : GoodP { t with Line := l } := by
  have hp := good_pre h.pre
  exact ⟨good_pre_mk hp.1 hp.2.1 hp.2.2.1 hl, fun k hk => (text_same (t := t) rfl rfl rfl k).trans (h.tx k hk), fun m hm => (note_same (t := t) rfl rfl m).trans (hn m hm), (run_same (t := t) rfl t.Log).trans h.lg⟩
theorem GoodP.send {t : Tell} (h : GoodP t) {m : Note} (hm : noteOk t m = true) : GoodP (tsend t m) := by
  unfold tsend
  split
  · rename_i hl
    refine h.line _ (by simp only [List.length_append, List.length_singleton]; omega) (fun x hx => ?_)
    rcases List.mem_append.1 hx with hx | hx
    · exact h.nt x hx
    · rw [List.mem_singleton.1 hx]; exact hm
  · exact h
theorem GoodP.at_ {t : Tell} (h : GoodP t) {k : Nat} (hk : k < t.Texts.length) : ∃ l a b, t.Texts[k]? = some l ∧ t.Next[k]? = some a ∧ t.Heard[k]? = some b ∧ l.length ≤ 20 ∧ l.all (fun s => decide (s.size ≤ 20)) = true ∧ (0 ≤ a ∧ a ≤ l.length) ∧ 0 ≤ b ∧ b ≤ a := by
  have hp := good_pre h.pre
  have e1 := List.getElem?_eq_getElem hk
  have e2 := List.getElem?_eq_getElem (show k < t.Next.length by omega)
  have e3 := List.getElem?_eq_getElem (show k < t.Heard.length by omega)
  have := h.tx k hk
  rw [textOk_eq e1 e2 e3] at this
  simp only [Bool.and_eq_true, decide_eq_true_eq, isIn_iff'] at this
  exact ⟨_, _, _, e1, e2, e3, this.1.1.1, this.1.1.2, this.1.2, this.2⟩
theorem textOk_mk {t : Tell} {k : Nat} {l : List ByteArray} {a b : Int} (h1 : t.Texts[k]? = some l) (h2 : t.Next[k]? = some a) (h3 : t.Heard[k]? = some b) (g1 : l.length ≤ 20) (g2 : l.all (fun s => decide (s.size ≤ 20)) = true) (g3 : 0 ≤ a ∧ a ≤ l.length) (g4 : 0 ≤ b ∧ b ≤ a) : textOk t k = true := by
  rw [textOk_eq h1 h2 h3]
  simp only [Bool.and_eq_true, decide_eq_true_eq, isIn_iff']
  exact ⟨⟨⟨g1, g2⟩, g3⟩, g4⟩
theorem note_who {t : Tell} {m : Note} (h : noteOk t m = true) : 0 ≤ m.What.Who ∧ m.What.Who < t.Texts.length := by
  unfold noteOk at h
  rw [Bool.and_eq_true, isIn_iff'] at h
  omega
theorem note_back {t : Tell} {m : Note} (h : noteOk t m = true) (hb : m.Back = true) : 0 ≤ m.What.No ∧ m.What.No ≤ iAt t.Next m.What.Who := by
  unfold noteOk at h
  rw [if_pos hb, Bool.and_eq_true, Bool.and_eq_true, isIn_iff', isIn_iff'] at h
  exact h.2.1
theorem note_said {t : Tell} {m : Note} (h : noteOk t m = true) (hb : m.Back = false) : saidOk t m.What = true := by
  unfold noteOk at h
  rw [if_neg (by rw [hb]; simp), Bool.and_eq_true] at h
  exact h.2
theorem said_no {t : Tell} {x : Told} (h : saidOk t x = true) : (0 ≤ x.Who ∧ x.Who < t.Texts.length) ∧ 0 ≤ x.No ∧ x.No < (tAt t x.Who).length := by
  unfold saidOk at h
  rw [Bool.and_eq_true, Bool.and_eq_true, isIn_iff', isIn_iff'] at h
  omega
theorem GoodP.back {t : Tell} (h : GoodP t) {m : Note} (hm : noteOk t m = true) (hb : m.Back = true) : GoodP (tback t m.What) := by
  have hp := good_pre h.pre
  have hw := note_who hm
  have hn := note_back hm hb
  refine ⟨good_pre_mk hp.1 (by show (t.Heard.set _ _).length = _; rw [List.length_set]; exact hp.2.1) hp.2.2.1 hp.2.2.2, fun k hk => ?_, fun x hx => (note_same (t := t) rfl rfl x).trans (h.nt x hx), (run_same (t := t) rfl t.Log).trans h.lg⟩
  obtain ⟨l, a, b, e1, e2, e3, g1, g2, g3, g4⟩ := h.at_ hk
  by_cases hkw : m.What.Who.toNat = k
  · have ew : iAt t.Next m.What.Who = a := iAt_of (by rw [hkw]; exact e2)
    have eh : iAt t.Heard m.What.Who = b := iAt_of (by rw [hkw]; exact e3)
    rw [ew] at hn
    refine textOk_mk e1 e2 (b := if b < m.What.No then m.What.No else b) ?_ g1 g2 g3 (by split <;> omega)
    show (t.Heard.set m.What.Who.toNat _)[k]? = _
    rw [hkw, eh, List.getElem?_set_self (List.getElem?_eq_some_iff.1 e3).1]
  · refine textOk_mk e1 e2 ?_ g1 g2 g3 g4
    show (t.Heard.set m.What.Who.toNat _)[k]? = _
    rw [List.getElem?_set_ne hkw]; exact e3
theorem GoodP.log {t : Tell} (h : GoodP t) {x : Told} (hs : saidOk t x = true) : GoodP (tlog t x) := by
  unfold tlog
  split
  · rename_i he
    have hp := good_pre h.pre
    have hx := said_no hs
    have hkn : x.Who.toNat < t.Texts.length := by omega
    obtain ⟨l, a, b, e1, e2, e3, g1, g2, g3, g4⟩ := h.at_ hkn
    have ea : iAt t.Next x.Who = a := iAt_of e2
    have el : tAt t x.Who = l := tAt_of e1
    rw [ea] at he ⊢
    rw [el] at hx
    refine ⟨good_pre_mk hp.1 hp.2.1 (by show (t.Next.set _ _).length = _; rw [List.length_set]; exact hp.2.2.1) hp.2.2.2, fun k hk => ?_, fun m hm => ?_, ?_⟩
    · obtain ⟨l', a', b', d1, d2, d3, j1, j2, j3, j4⟩ := h.at_ hk
      by_cases hkw : x.Who.toNat = k
      · subst hkw
        rw [e1] at d1; injection d1 with d1; subst d1
        rw [e2] at d2; injection d2 with d2; subst d2
        exact textOk_mk (a := a + 1) e1 (by show (t.Next.set _ _)[_]? = _; rw [List.getElem?_set_self (List.getElem?_eq_some_iff.1 e2).1]) d3 j1 j2 (by omega) (by omega)
      · exact textOk_mk d1 (by show (t.Next.set _ _)[_]? = _; rw [List.getElem?_set_ne hkw]; exact d2) d3 j1 j2 j3 j4
    · have hn := h.nt m hm
      have hw := note_who hn
      unfold noteOk at hn ⊢
      rw [Bool.and_eq_true] at hn ⊢
      refine ⟨hn.1, ?_⟩
      have hn2 := hn.2
      split
      · rename_i hb
        rw [if_pos hb, Bool.and_eq_true, isIn_iff'] at hn2
        rw [Bool.and_eq_true, isIn_iff']
        refine ⟨⟨hn2.1.1, Int.le_trans hn2.1.2 ?_⟩, hn2.2⟩
        show iAt t.Next m.What.Who ≤ iAt (t.Next.set x.Who.toNat (a + 1)) m.What.Who
        by_cases hq : x.Who.toNat = m.What.Who.toNat
        · have : iAt (t.Next.set x.Who.toNat (a + 1)) m.What.Who = a + 1 := iAt_of (by rw [← hq, List.getElem?_set_self (List.getElem?_eq_some_iff.1 e2).1])
          rw [this, iAt_of (l := t.Next) (a := a) (by rw [← hq]; exact e2)]; omega
        · have hk2 : m.What.Who.toNat < t.Next.length := by omega
          have := List.getElem?_eq_getElem hk2
          rw [iAt_of this, iAt_of (l := t.Next.set x.Who.toNat (a + 1)) (a := t.Next[m.What.Who.toNat]) (by rw [List.getElem?_set_ne hq]; exact this)]
          omega
      · rename_i hb
        rw [if_neg hb] at hn2
        exact hn2
    · show logRun _ (t.Log ++ [x]) = some (t.Next.set x.Who.toNat (a + 1))
      refine (run_same (t := t) rfl _).trans ?_
      rw [logRun_snoc, h.lg]
      show logStep t t.Next x = _
      unfold logStep
      rw [ea, if_pos (by rw [hs, Bool.true_and, decide_eq_true_eq]; exact he)]
  · exact h
theorem tlog_sub (t : Tell) (x : Told) : (tlog t x).Texts = t.Texts ∧ (tlog t x).Line = t.Line ∧ (tlog t x).Heard = t.Heard := by
  unfold tlog; split <;> exact ⟨rfl, rfl, rfl⟩
theorem GoodP.take {t : Tell} (h : GoodP t) {m : Note} (hm : noteOk t m = true) : GoodP (ttake t m) := by
  unfold ttake
  split
  · rename_i hb; exact h.back hm hb
  · rename_i hb
    have hb' : m.Back = false := by simpa using hb
    have hs := note_said hm hb'
    have h1 := h.log hs
    refine h1.send ?_
    have hw := note_who hm
    have hk : m.What.Who.toNat < (tlog t m.What).Texts.length := by rw [(tlog_sub t m.What).1]; omega
    obtain ⟨l, a, b, e1, e2, e3, g1, g2, g3, g4⟩ := h1.at_ hk
    have ea : iAt (tlog t m.What).Next m.What.Who = a := iAt_of e2
    unfold noteOk
    rw [if_pos rfl]
    dsimp only
    rw [ea, Bool.and_eq_true, Bool.and_eq_true, isIn_iff', isIn_iff']
    refine ⟨⟨hw.1, by rw [(tlog_sub t m.What).1]; omega⟩, ⟨g3.1, Int.le_refl _⟩, ?_⟩
    have : ByteArray.empty.toList = [] := by unfold ByteArray.toList ByteArray.toList.loop; rfl
    rw [this]; rfl
theorem said_put {t : Tell} {k : Nat} {ys : List ByteArray} {s : ByteArray} (hy : t.Texts[k]? = some ys) {x : Told} (h : saidOk t x = true) : saidOk { t with Texts := t.Texts.set k (ys ++ [s]) } x = true := by
  have hn := said_no h
  unfold saidOk at h ⊢
  rw [Bool.and_eq_true, Bool.and_eq_true] at h ⊢
  have hlen : ({ t with Texts := t.Texts.set k (ys ++ [s]) } : Tell).Texts.length = t.Texts.length := by show (t.Texts.set _ _).length = _; rw [List.length_set]
  rw [hlen]
  by_cases hq : k = x.Who.toNat
  · have e1 : tAt t x.Who = ys := tAt_of (by rw [← hq]; exact hy)
    have e2 : tAt { t with Texts := t.Texts.set k (ys ++ [s]) } x.Who = ys ++ [s] := tAt_of (by show (t.Texts.set k _)[_]? = _; rw [← hq, List.getElem?_set_self (List.getElem?_eq_some_iff.1 hy).1])
    unfold sayAt at h ⊢
    rw [e1] at h hn
    rw [e2]
    have hi : x.No.toNat < ys.length := by omega
    refine ⟨⟨h.1.1, ?_⟩, ?_⟩
    · rw [isIn_iff']; simp only [List.length_append, List.length_singleton]; omega
    · rw [List.getD_eq_getElem?_getD, List.getElem?_append_left hi, ← List.getD_eq_getElem?_getD]; exact h.2
  · have e2 : tAt { t with Texts := t.Texts.set k (ys ++ [s]) } x.Who = tAt t x.Who := by
      unfold tAt
      show (t.Texts.set k _).getD _ _ = _
      rw [List.getD_eq_getElem?_getD, List.getD_eq_getElem?_getD, List.getElem?_set_ne hq]
    unfold sayAt at h ⊢
    rw [e2]
    exact h
theorem run_put {t : Tell} {k : Nat} {ys : List ByteArray} {s : ByteArray} (hy : t.Texts[k]? = some ys) : ∀ (n : Nat) (l : List Told), l.length = n → ∀ r, logRun t l = some r → logRun { t with Texts := t.Texts.set k (ys ++ [s]) } l = some r
  | 0, l, hl, r, h => by
    rw [List.length_eq_zero_iff.1 hl] at h ⊢
    unfold logRun at h ⊢
    rw [List.foldl_nil] at h ⊢
    rw [← h]
    show some (List.replicate (t.Texts.set k _).length 0) = _
    rw [List.length_set]
  | n + 1, l, hl, r, h => by
    rcases List.eq_nil_or_concat l with rfl | ⟨l', x, rfl⟩
    · cases hl
    · rw [List.concat_eq_append] at hl h ⊢
      rw [logRun_snoc] at h ⊢
      cases hr : logRun t l' with
      | none => rw [hr] at h; cases h
      | some r' =>
        rw [hr] at h
        rw [run_put hy n l' (by simpa using hl) r' hr]
        show logStep _ r' x = some r
        have h' : logStep t r' x = some r := h
        unfold logStep at h' ⊢
        split at h'
        · rename_i hc
          rw [Bool.and_eq_true] at hc
          rw [if_pos (by rw [Bool.and_eq_true]; exact ⟨said_put hy hc.1, hc.2⟩)]
          exact h'
        · cases h'
theorem GoodP.put {t : Tell} (h : GoodP t) (k : Int) (s : ByteArray) : GoodP (tput t k s).1 := by
  unfold tput
  split
  · rename_i hp
    have hk : k.toNat < t.Texts.length := by omega
    obtain ⟨ys, a, b, e1, e2, e3, g1, g2, g3, g4⟩ := h.at_ hk
    have ey : tAt t k = ys := tAt_of e1
    rw [ey] at hp ⊢
    have hpp := good_pre h.pre
    have hlen : (t.Texts.set k.toNat (ys ++ [s])).length = t.Texts.length := List.length_set
    refine ⟨good_pre_mk (by show 1 ≤ (t.Texts.set _ _).length ∧ _; rw [hlen]; exact hpp.1) (by show _ = (t.Texts.set _ _).length; rw [hlen]; exact hpp.2.1) (by show _ = (t.Texts.set _ _).length; rw [hlen]; exact hpp.2.2.1) hpp.2.2.2, fun j hj => ?_, fun m hm => ?_, run_put e1 _ t.Log rfl _ h.lg⟩
    · have hj' : j < t.Texts.length := by rw [← hlen]; exact hj
      obtain ⟨l', a', b', d1, d2, d3, j1, j2, j3, j4⟩ := h.at_ hj'
      by_cases hq : k.toNat = j
      · subst hq
        rw [e1] at d1; injection d1 with d1; subst d1
        refine textOk_mk (l := ys ++ [s]) (by show (t.Texts.set _ _)[_]? = _; rw [List.getElem?_set_self hk]) d2 d3 (by simp; omega) ?_ (by simp only [List.length_append, List.length_singleton]; omega) j4
        rw [List.all_append, g2]
        simp; omega
      · exact textOk_mk (by show (t.Texts.set _ _)[_]? = _; rw [List.getElem?_set_ne hq]; exact d1) d2 d3 j1 j2 j3 j4
    · have hn := h.nt m hm
      unfold noteOk at hn ⊢
      rw [Bool.and_eq_true] at hn ⊢
      refine ⟨by show isIn _ 0 (((t.Texts.set _ _).length : Int) - 1) = true; rw [hlen]; exact hn.1, ?_⟩
      have hn2 := hn.2
      split
      · rename_i hb; rw [if_pos hb] at hn2; exact hn2
      · rename_i hb; rw [if_neg hb] at hn2; exact said_put e1 hn2
  · exact h
theorem GoodP.step {t : Tell} (h : GoodP t) (s : TellStep) : GoodP (tstep t s).1 := by
  have hpp := good_pre h.pre
  unfold tstep
  split
  · exact h.put _ _
  · split
    · exact h
    · rename_i hn1 hn2
      split
      · split
        · rename_i hk
          have hkn : s.K.toNat < t.Texts.length := by omega
          obtain ⟨ys, a, b, e1, e2, e3, g1, g2, g3, g4⟩ := h.at_ hkn
          have ey : tAt t s.K = ys := tAt_of e1
          have eb : iAt t.Heard s.K = b := iAt_of e3
          rw [ey, eb] at hk
          refine h.send ?_
          unfold noteOk
          rw [if_neg (by simp), Bool.and_eq_true]
          dsimp only
          rw [isIn_iff']
          refine ⟨by omega, ?_⟩
          unfold saidOk sayAt
          dsimp only
          rw [eb, ey, Bool.and_eq_true, Bool.and_eq_true, isIn_iff', isIn_iff']
          exact ⟨⟨by omega, by omega⟩, by simp⟩
        · exact h
      · split
        · rename_i hk
          have hki : s.K.toNat < t.Line.length := by omega
          have hx := List.getElem?_eq_getElem hki
          have hm : noteOk t (noteAt t s.K) = true := by
            rw [noteAt_of hx]; exact h.nt _ (List.getElem_mem hki)
          have he : GoodP { t with Line := t.Line.eraseIdx s.K.toNat } := h.line _ (Nat.le_trans (List.length_eraseIdx_le _ _) hpp.2.2.2) (fun m hm => h.nt m (List.mem_of_mem_eraseIdx hm))
          split
          · split
            · exact h
            · rename_i hl
              refine h.line _ (by simp only [List.length_append, List.length_singleton]; omega) (fun x hx => ?_)
              rcases List.mem_append.1 hx with hx | hx
              · exact h.nt x hx
              · rw [List.mem_singleton.1 hx]; exact hm
          · split
            · exact he.take ((note_same (t := t) rfl rfl _).trans hm)
            · exact he
        · exact h
end Pl
end Go.Proofs.Ytaepohocabealaa

/-
  Contracts: WrittenOf, the program's (chapter 10). No conditions.
-/
namespace Go.Proofs.Ytaepohocabealaa
open Go.RowKit
attribute [local go_sem] und_cell cha_cell World.cell?_alloc_some
/-- the texts of one teller in a log -/
def Pl.textsOf (l : List Told) (who : Int) : List ByteArray := (l.filter fun x => decide (x.Who = who)).map Told.Text
def Pl.writtenOf (t : Tell) (who : Int) : List ByteArray × Bool := if (Pl.goodTell t && Pl.isIn who 0 ((t.Texts.length : Int) - 1)) = true then (Pl.textsOf t.Log who, true) else ([], false)
theorem Pl.textsOf_snoc (l : List Told) (x : Told) (who : Int) : Pl.textsOf (l ++ [x]) who = Pl.textsOf l who ++ (if x.Who = who then [x.Text] else []) := by
  unfold Pl.textsOf
  rw [List.filter_append, List.map_append]
  by_cases h : x.Who = who <;> simp [h]
theorem Pl.textsOf_len (l : List Told) (who : Int) : (Pl.textsOf l who).length ≤ l.length := by
  unfold Pl.textsOf
  rw [List.length_map]
  exact List.length_filter_le _ _
set_option maxRecDepth 100000 in
set_option maxHeartbeats 4000000 in
theorem implWrittenOf_c (t : Tell) (who : Int) (cs : List Value) (w : World) (B : Nat) (hh : rTell.at_ w B t cs) (hB : B ≤ w.heap.size) :
    Calls Try.prog 15 #[.agg cs.toArray, .int .i64 who] w (Mm.RetS2 Mm.str 9 w (Pl.writtenOf t who).1 (Pl.writtenOf t who).2) := by
  have HHH := Lib.hid (And.intro hh hB)
  obtain ⟨A0, n0, c0, A1, n1, c1, A2, n2, c2, A3, n3, c3, A4, n4, c4, rfl, r0, r1, r2, r3, r4⟩ := rTell_at hh
  have m0 : n0 ≤ maxLen := Nat.le_trans r0.2.1 r0.2.2.1
  have m1 : n1 ≤ maxLen := Nat.le_trans r1.2.1 r1.2.2.1
  have m2 : n2 ≤ maxLen := Nat.le_trans r2.2.1 r2.2.2.1
  have m3 : n3 ≤ maxLen := Nat.le_trans r3.2.1 r3.2.2.1
  have m4 : n4 ≤ maxLen := Nat.le_trans r4.2.1 r4.2.2.1
  unfold maxLen at m0 m1 m2 m3 m4
  have HLN := Lib.hid (And.intro r0.1 (And.intro r1.1 (And.intro r2.1 (And.intro r3.1 r4.1))))
  have hbel : Below w.heap.size w (w.alloc (.cells #[.slice A0 n0 c0, .slice A1 n1 c1, .slice A2 n2 c2, .slice A3 n3 c3, .slice A4 n4 c4] 31)) := below_new (Below.refl _ _) _
  have HKK := Lib.hid (Mm.Blk.new w 31 [.slice A0 n0 c0, .slice A1 n1 c1, .slice A2 n2 c2, .slice A3 n3 c3, .slice A4 n4 c4])
  have HR0 := Lib.hid (r0.keep fun b hb => hbel.block b (by omega))
  have HR1 := Lib.hid (r1.keep fun b hb => hbel.block b (by omega))
  have HR2 := Lib.hid (r2.keep fun b hb => hbel.block b (by omega))
  have HR3 := Lib.hid (r3.keep fun b hb => hbel.block b (by omega))
  have HR4 := Lib.hid (r4.keep fun b hb => hbel.block b (by omega))
  have HBW := Lib.hid (Nat.le_trans hB hbel.size)
  have HT0 := Lib.hid hbel
  clear hbel r0 r1 r2 r3 r4 hh hB
  go_enter Try.func15, Try.ntmps15
  go_upto_region 1 with fail
  obtain ⟨gt, hgt⟩ : ∃ gt, w.heap.size = gt := ⟨_, rfl⟩
  obtain ⟨W0, hW0⟩ : ∃ W0, w.alloc (.cells #[.slice A0 n0 c0, .slice A1 n1 c1, .slice A2 n2 c2, .slice A3 n3 c3, .slice A4 n4 c4] 31) = W0 := ⟨_, rfl⟩
  rw [show [Value.slice A0 n0 c0, .slice A1 n1 c1, .slice A2 n2 c2, .slice A3 n3 c3, .slice A4 n4 c4].toArray = #[.slice A0 n0 c0, .slice A1 n1 c1, .slice A2 n2 c2, .slice A3 n3 c3, .slice A4 n4 c4] from rfl, hW0, hgt] at HKK
  rw [hW0] at HR0 HR1 HR2 HR3 HR4 HT0 HBW
  rw [hW0, hgt]
  have HGT := Lib.hid hgt
  clear hW0 hgt
  have d0 := HKK.out.cell (i := 0) rfl
  have d1 := HKK.out.cell (i := 1) rfl
  have d2 := HKK.out.cell (i := 2) rfl
  have d3 := HKK.out.cell (i := 3) rfl
  have d4 := HKK.out.cell (i := 4) rfl
  have HT := Lib.hid (rTell.keep HHH.out.1 (w' := W0) fun b hb => HT0.out.block b (by have := HHH.out.2; omega))
  obtain ⟨gg, hgg⟩ : ∃ gg, Pl.goodTell t = gg := ⟨_, rfl⟩
  have HGG := Lib.hid hgg
  clear hgg
  have CG := HGG.out ▸ isTell_c t _ W0 B HT.out HBW.out
  have hw1 : IntKind.i64.wrap ((n0 : Int) - 1) = (n0 : Int) - 1 := IntWalk.i64_in _ (by omega)
  cases gg with
  | false =>
    have HF : Hid (Pl.writtenOf t who = ([], false)) := if_neg (by rw [HGG.out]; simp)
    go_wp2_with (go_at_call 53; (with_reducible refine CG.mono ?_); rintro e w1 ⟨rfl, hX⟩)
    rw [HF.out]
    go_ret2
    exact (Mm.Acc.nil (below_step HT0.out hX)).ret
  | true =>
  obtain ⟨gi, hgi⟩ : ∃ gi, Pl.isIn who 0 ((n0 : Int) - 1) = gi := ⟨_, rfl⟩
  have HGI := Lib.hid hgi
  clear hgi
  have HW := Lib.hid (Pl.good_wf HGG.out)
  have hlog := HW.out.log_len
  rw [HLN.out.2.2.2.1] at hlog
  cases gi with
  | false =>
    have HF : Hid (Pl.writtenOf t who = ([], false)) := if_neg (by rw [HLN.out.1, HGI.out]; simp)
    go_wp2_with (first | (go_at_call 53; (with_reducible refine CG.mono ?_); rintro e w1 ⟨rfl, hX⟩; replace d0 := below_some hX d0) | (go_at_call 47; (with_reducible refine (within_is HGI.out _).mono ?_); rintro e w' ⟨rfl, rfl⟩))
    rw [HF.out]
    go_ret2
    exact (Mm.Acc.nil (below_step HT0.out hX)).ret
  | true =>
    have HF : Hid (Pl.writtenOf t who = (Pl.textsOf t.Log who, true)) := if_pos (by rw [HLN.out.1, HGG.out, HGI.out]; rfl)
    obtain ⟨i0, hi, hz0, hz1, hz2⟩ := info_parts Try.infoStr
    go_wp2_with (first | (go_at_call 53; (with_reducible refine CG.mono ?_); rintro e w1 ⟨rfl, hX⟩; (replace d0 := below_some hX d0); (replace d3 := below_some hX d3)) | (go_at_call 47; (with_reducible refine (within_is HGI.out _).mono ?_); rintro e w' ⟨rfl, rfl⟩))
    clear d0 d1 d2 d3 d4
    have HBX := below_step HT0.out hX
    clear hX
    go_loopg [6, 24] n3 (fun g o i wr => ∃ k : Nat, n3 - k ≤ g ∧ k ≤ n3 ∧ i = .int .i64 k ∧ Mm.Acc Mm.str 9 w (Pl.textsOf (t.Log.take k) who) o wr)
    case atStart => exact ⟨0, Nat.le_refl _, Nat.zero_le _, rfl, Mm.Acc.nil HBX⟩
    case round =>
      clear HBX
      obtain ⟨k, hgk, hk, rfl, hacc⟩ := hrel
      obtain ⟨W, rfl⟩ : ∃ W : World, W = wr := ⟨_, rfl⟩
      have hbel := hacc.bel
      have hsw := hbel.size
      obtain ⟨A', n', c', rfl, hn', -, -, -⟩ := hacc.form
      have hnk : n' ≤ k := by
        rw [hn']
        refine Nat.le_trans (Pl.textsOf_len _ _) ?_
        rw [List.length_take]; omega
      have HA := Lib.hid hacc
      have HNL : Hid (n' = (Pl.textsOf (t.Log.take k) who).length) := hn'
      clear hacc hn'
      by_cases hlt : k < n3
      · obtain ⟨⟨xW, xN, xT⟩, b, off, hx, rfl, hb, mi0, mi1, mi2, e0, e1, e2⟩ := rTold_get ((show Mm.SlAt rTold W B t.Log A3 n3 c3 from HR3.out.keep fun b hb => (hbel.block b (Nat.lt_of_lt_of_le hb HHH.out.2)).trans (HT0.out.block b (Nat.lt_of_lt_of_le hb HHH.out.2)).symm)) hlt
        dsimp only at mi0 mi1 mi2 e0 e1 e2
        have f1 : (k : Int) < (n3 : Nat) := by omega
        have f2 : (0 : Int) ≤ (k : Nat) := by omega
        have f3 : ((k : Nat) : Int).toNat = k := by omega
        have HTS : Hid (t.Log.take (k + 1) = t.Log.take k ++ [⟨xW, xN, xT⟩]) := by
          obtain ⟨hk', hg⟩ := List.getElem?_eq_some_iff.1 hx
          show _ = _
          rw [List.take_succ_eq_append_getElem hk', hg]
        have HMI := Lib.hid mi2
        clear hx mi0 mi1 mi2
        unfold maxLen at HMI
        by_cases hw : xW = who
        · obtain rfl : who = xW := hw.symm
          have HN : Hid (Pl.textsOf (t.Log.take (k + 1)) who = Pl.textsOf (t.Log.take k) who ++ [xT]) := by show _ = _; rw [HTS.out, Pl.textsOf_snoc, if_pos rfl]
          obtain ⟨l0, ho, hnext⟩ := HA.out.push (W2 := (W.alloc (.cells #[.int .i64 who, .int .i64 xN, .string xT] 52)).alloc (.cells #[.string xT] 9)) (below_new (below_new (Below.refl _ _) _) _) (x := xT) (cx := [.string xT]) (fx := []) ⟨rfl, HMI.out, rfl⟩ List.nodup_nil (fun b hb => by cases hb)
          rw [← HNL.out] at ho hnext
          have HNX := Lib.hid hnext
          have HO := Lib.hid ho
          clear ho hnext
          go_wp2_with (at_builtin; refine wpList_append_lies _ (by rfl) _ _ _ (by rfl) 0 9 i0 _ 1 16 Try.underlying40 hi hz0 hz1 hz2 rfl (by omega) _ n' l0 (by rfl) HO.out ⟨W.heap.size + 1, 0, none⟩ 1 1 [.string xT] (by rfl) (by rfl) (World.news_of_block (B := W.heap.size + 1) (cs := #[.string xT]) (t := 9) (fr := (0, 0)) (Mm.heap_new _ (Mm.sz1 _ _) _)) (by simp [Value.oneCell']) (by omega) (by unfold maxLen; omega) (by omega) (Nat.zero_le _) _ rfl ?_; intro gg cap w2 hown1 hgrow hat hlt9; have HAC := Lib.hid (HNX.out gg cap w2 hown1 hgrow hat); clear hown1 hgrow hat hlt9)
          go_roundg (n3 - (k + 1))
          case measure => omega
          case rel => exact ⟨k + 1, Nat.le_refl _, by omega, by go_num, by rw [HN.out]; exact HAC.out⟩
        · have HN : Hid (Pl.textsOf (t.Log.take (k + 1)) who = Pl.textsOf (t.Log.take k) who) := by show _ = _; rw [HTS.out, Pl.textsOf_snoc, if_neg hw, List.append_nil]
          go_wp2
          go_roundg (n3 - (k + 1))
          case measure => omega
          case rel => exact ⟨k + 1, Nat.le_refl _, by omega, by go_num, by rw [HN.out]; exact HA.out.step (below_new (Below.refl _ _) _)⟩
      · obtain rfl : n3 = k := by omega
        have HTK : Hid (t.Log.take n3 = t.Log) := List.take_of_length_le (by have := HLN.out.2.2.2.1; omega)
        have hlt' : ¬ (n3 : Int) < (n3 : Nat) := by omega
        have HR := Lib.hid (HA.out.ret (b := true))
        rw [HTK.out] at HR
        go_wp2
        go_ret2
        rw [HF.out]
        exact HR.out
end Go.Proofs.Ytaepohocabealaa

/-
  Plain laws: what is written of a good teller, and a settled teller. No program in sight. No conditions.
-/
namespace Go.Proofs.Ytaepohocabealaa
namespace Pl
theorem log_texts {t : Tell} : ∀ (n : Nat) (l : List Told), l.length = n → ∀ r, logRun t l = some r → r.length = t.Texts.length ∧ ∀ k : Nat, k < t.Texts.length → 0 ≤ iAt r k ∧ iAt r k ≤ ((tAt t k).length : Nat) ∧ textsOf l k = (tAt t k).take (iAt r k).toNat
  | 0, l, hl, r, h => by
    rw [List.length_eq_zero_iff.1 hl] at h ⊢
    unfold logRun at h
    rw [List.foldl_nil] at h
    injection h with h
    subst h
    refine ⟨List.length_replicate, fun k hk => ?_⟩
    have : iAt (List.replicate t.Texts.length 0) k = 0 := iAt_of (by rw [show ((k : Nat) : Int).toNat = k by omega, List.getElem?_replicate, if_pos hk])
    rw [this]
    exact ⟨Int.le_refl _, by omega, rfl⟩
  | n + 1, l, hl, r, h => by
    rcases List.eq_nil_or_concat l with rfl | ⟨l', x, rfl⟩
    · cases hl
    · rw [List.concat_eq_append] at hl h ⊢
      rw [logRun_snoc] at h
      cases hr : logRun t l' with
      | none => rw [hr] at h; cases h
      | some r' =>
        rw [hr] at h
        have ih := log_texts n l' (by simpa using hl) r' hr
        have h' : logStep t r' x = some r := h
        unfold logStep at h'
        split at h'
        · rename_i hc
          rw [Bool.and_eq_true, decide_eq_true_eq] at hc
          injection h' with h'
          subst h'
          refine ⟨by rw [List.length_set]; exact ih.1, fun k hk => ?_⟩
          have hx := said_no hc.1
          have i1 := ih.2 k hk
          rw [textsOf_snoc]
          by_cases hq : x.Who = k
          · rw [if_pos hq]
            have ex : x.Text = sayAt t x := by
              have := hc.1
              unfold saidOk at this
              rw [Bool.and_eq_true, beq_iff_eq] at this
              exact (ba_inj this.2).symm
            have e1 : iAt (r'.set x.Who.toNat (iAt r' x.Who + 1)) k = iAt r' k + 1 := iAt_of (by rw [hq, List.getElem?_set_self (by rw [ih.1]; omega)])
            rw [e1]
            rw [hq] at hc hx
            have e2 : (iAt r' k + 1).toNat = (iAt r' k).toNat + 1 := by omega
            refine ⟨by omega, by omega, ?_⟩
            have hlt : (iAt r' k).toNat < (tAt t k).length := by omega
            rw [e2, List.take_succ_eq_append_getElem hlt, i1.2.2, ex]
            unfold sayAt
            rw [hq, hc.2, List.getD_eq_getElem?_getD, List.getElem?_eq_getElem hlt]
            rfl
          · rw [if_neg hq, List.append_nil]
            have e1 : iAt (r'.set x.Who.toNat (iAt r' x.Who + 1)) k = iAt r' k := by
              unfold iAt
              rw [List.getD_eq_getElem?_getD, List.getElem?_set_ne (by omega), List.getD_eq_getElem?_getD]
            rw [e1]
            exact i1
        · cases h'
theorem GoodP.new {n : Nat} (h1 : 1 ≤ n) (h4 : n ≤ 4) : GoodP (newTe n) := by
  have lT : (newTe n).Texts.length = n := List.length_replicate
  have lH : (newTe n).Heard.length = n := List.length_replicate
  have lN : (newTe n).Next.length = n := List.length_replicate
  refine ⟨good_pre_mk (by omega) (by omega) (by omega) (Nat.zero_le _), fun k hk => ?_, fun m hm => (by cases hm), ?_⟩
  · rw [lT] at hk
    exact textOk_mk (l := []) (a := 0) (b := 0) (by show (List.replicate n _)[k]? = _; rw [List.getElem?_replicate, if_pos hk]) (by show (List.replicate n _)[k]? = _; rw [List.getElem?_replicate, if_pos hk]) (by show (List.replicate n _)[k]? = _; rw [List.getElem?_replicate, if_pos hk]) (Nat.zero_le _) rfl ⟨Int.le_refl _, Int.le_refl _⟩ ⟨Int.le_refl _, Int.le_refl _⟩
  · show some (List.replicate (newTe n).Texts.length 0) = some (List.replicate n 0)
    rw [lT]
/-- what a step leaves: the number of tellers, and what is acknowledged grows -/
def Grew (t t' : Tell) : Prop := t'.Texts.length = t.Texts.length ∧ ∀ j : Nat, iAt t.Heard j ≤ iAt t'.Heard j
theorem Grew.refl (t : Tell) : Grew t t := ⟨rfl, fun _ => Int.le_refl _⟩
theorem Grew.same {t t' : Tell} (h1 : t'.Texts.length = t.Texts.length) (h2 : t'.Heard = t.Heard) : Grew t t' := ⟨h1, fun j => by rw [h2]; exact Int.le_refl _⟩
theorem Grew.trans {a b c : Tell} (h1 : Grew a b) (h2 : Grew b c) : Grew a c := ⟨h2.1.trans h1.1, fun j => Int.le_trans (h1.2 j) (h2.2 j)⟩
theorem send_grew (t : Tell) (m : Note) : Grew t (tsend t m) := by unfold tsend; split <;> exact .same rfl rfl
theorem back_grew (t : Tell) (x : Told) : Grew t (tback t x) := by
  refine ⟨rfl, fun j => ?_⟩
  show _ ≤ iAt (t.Heard.set _ _) j
  by_cases hq : x.Who.toNat = j
  · by_cases hj : j < t.Heard.length
    · have e : iAt t.Heard x.Who = iAt t.Heard (j : Int) := by unfold iAt; rw [hq]; rfl
      rw [iAt_of (l := t.Heard.set x.Who.toNat _) (k := (j : Int)) (by rw [hq, show ((j : Nat) : Int).toNat = j by omega, List.getElem?_set_self hj]), e]
      split <;> omega
    · rw [List.set_eq_of_length_le (by omega)]; exact Int.le_refl _
  · have : iAt (t.Heard.set x.Who.toNat (if iAt t.Heard x.Who < x.No then x.No else iAt t.Heard x.Who)) (j : Int) = iAt t.Heard j := by
      unfold iAt
      rw [List.getD_eq_getElem?_getD, List.getElem?_set_ne (by omega), List.getD_eq_getElem?_getD]
    rw [this]; exact Int.le_refl _
theorem log_grew (t : Tell) (x : Told) : Grew t (tlog t x) := by unfold tlog; split <;> exact .same rfl rfl
theorem take_grew (t : Tell) (m : Note) : Grew t (ttake t m) := by
  unfold ttake
  split
  · exact back_grew _ _
  · exact (log_grew _ _).trans (send_grew _ _)
theorem step_grew (t : Tell) (s : TellStep) : Grew t (tstep t s).1 := by
  unfold tstep
  split
  · unfold tput
    split
    · exact .same List.length_set rfl
    · exact .refl _
  · split
    · exact .refl _
    · split
      · split
        · exact send_grew _ _
        · exact .refl _
      · split
        · split
          · split
            · exact .refl _
            · exact .same rfl rfl
          · split
            · exact (Grew.same (t := t) (t' := { t with Line := t.Line.eraseIdx s.K.toNat }) rfl rfl).trans (take_grew _ _)
            · exact .same rfl rfl
        · exact .refl _
theorem GoodP.play {t : Tell} (h : GoodP t) : ∀ (n : Nat) (l : List TellStep), l.length = n → GoodP (playL t l).1 ∧ (playL t l).1.Texts.length = t.Texts.length
  | 0, l, hl => by
    rw [List.length_eq_zero_iff.1 hl]
    exact ⟨h, rfl⟩
  | n + 1, l, hl => by
    rcases List.eq_nil_or_concat l with rfl | ⟨l', s, rfl⟩
    · cases hl
    · rw [List.concat_eq_append] at hl ⊢
      have ih := h.play n l' (by simpa using hl)
      rw [playL_snoc]
      exact ⟨ih.1.step s, (step_grew _ _).1.trans ih.2⟩
theorem GoodP.settleOne {t : Tell} (h : GoodP t) (k : Int) : GoodP (settleOne t k) ∧ Grew t (settleOne t k) := by
  unfold Pl.settleOne
  exact ⟨(((h.line [] (Nat.zero_le _) (fun m hm => by cases hm)).step _).step _).step _, (Grew.same (t := t) (t' := noLine t) rfl rfl).trans (((step_grew _ _).trans (step_grew _ _)).trans (step_grew _ _))⟩
theorem GoodP.settleF {k : Nat} : ∀ (f : Nat) (t : Tell) (c : Int), GoodP t → k < t.Texts.length → ((tAt t k).length : Int) - iAt t.Heard k ≤ f → GoodP (Pl.settleF f t k c).1 ∧ Grew t (Pl.settleF f t k c).1 ∧ (Pl.settleF f t k c).1.Texts = t.Texts ∧ ((tAt t k).length : Int) ≤ iAt (Pl.settleF f t k c).1.Heard k
  | 0, t, c, h, hk, hf => ⟨h, .refl t, rfl, by show _ ≤ iAt t.Heard k; omega⟩
  | f + 1, t, c, h, hk, hf => by
    unfold Pl.settleF
    by_cases hl : iAt t.Heard (k : Int) < ((tAt t (k : Int)).length : Nat)
    · rw [if_pos hl]
      have g := good_iff.2 h
      obtain ⟨-, -, hT, hH⟩ := settle_one (good_wf g) (good_hle g) hk hl
      have h1 := h.settleOne k
      have eT : tAt (Pl.settleOne t k) k = tAt t k := by unfold tAt; rw [hT]
      have ih := GoodP.settleF f (Pl.settleOne t k) (c + 1) h1.1 (by rw [hT]; exact hk) (by rw [eT]; push_cast at hf; omega)
      rw [eT] at ih
      exact ⟨ih.1, h1.2.trans ih.2.1, ih.2.2.1.trans hT, ih.2.2.2⟩
    · rw [if_neg hl]
      exact ⟨h, .refl t, rfl, by show _ ≤ iAt t.Heard k; omega⟩
theorem GoodP.settleTo {t : Tell} (h : GoodP t) : ∀ k, k ≤ t.Texts.length → GoodP (Pl.settleTo t k).1 ∧ Grew t (Pl.settleTo t k).1 ∧ (Pl.settleTo t k).1.Texts = t.Texts ∧ ∀ j : Nat, j < k → ((tAt t j).length : Int) ≤ iAt (Pl.settleTo t k).1.Heard j
  | 0, _ => ⟨h, .refl t, rfl, fun j hj => absurd hj (Nat.not_lt_zero _)⟩
  | k + 1, hk => by
    have ih := h.settleTo k (by omega)
    have hk' : k < (Pl.settleTo t k).1.Texts.length := by rw [ih.2.2.1]; omega
    have eT : ∀ j : Int, tAt (Pl.settleTo t k).1 j = tAt t j := fun j => by unfold tAt; rw [ih.2.2.1]
    obtain ⟨l, a, b, e1, e2, e3, g1, g2, g3, g4⟩ := ih.1.at_ hk'
    have el : tAt (Pl.settleTo t k).1 (k : Int) = l := tAt_of (by simpa using e1)
    have eb : iAt (Pl.settleTo t k).1.Heard (k : Int) = b := iAt_of (by simpa using e3)
    have := GoodP.settleF (k := k) 21 (Pl.settleTo t k).1 (Pl.settleTo t k).2 ih.1 hk' (by rw [el, eb]; omega)
    refine ⟨this.1, ih.2.1.trans this.2.1, this.2.2.1.trans ih.2.2.1, fun j hj => ?_⟩
    rcases Nat.lt_succ_iff_lt_or_eq.1 hj with h1 | rfl
    · exact Int.le_trans (ih.2.2.2 j h1) (this.2.1.2 j)
    · have h5 := this.2.2.2
      rw [eT] at h5
      exact h5
/-- what the law on writings needs -/
theorem once_texts {t : Tell} (h : GoodP t) {k : Nat} (hk : k < t.Texts.length) {l : List ByteArray} (hl : t.Texts[k]? = some l) :
    writtenOf t k = (textsOf t.Log k, true) ∧ (textsOf t.Log k).length ≤ l.length ∧ textsOf t.Log k = l.take (textsOf t.Log k).length ∧ ∃ b, t.Heard[k]? = some b ∧ b ≤ (textsOf t.Log k).length := by
  have el : tAt t (k : Int) = l := tAt_of (by simpa using hl)
  have := (log_texts _ t.Log rfl t.Next h.lg).2 k hk
  rw [el] at this
  obtain ⟨l', a, b, e1, e2, e3, g1, g2, g3, g4⟩ := h.at_ hk
  have ea : iAt t.Next (k : Int) = a := iAt_of (by simpa using e2)
  rw [ea] at this
  have hlen : (textsOf t.Log k).length = a.toNat := by rw [this.2.2, List.length_take]; omega
  refine ⟨if_pos (by rw [good_iff.2 h, Bool.true_and, isIn_iff']; omega), by omega, by rw [hlen]; exact this.2.2, b, e3, by omega⟩
theorem once_settled {t : Tell} (h : GoodP t) {k : Nat} (hk : k < t.Texts.length) {l : List ByteArray} (hl : t.Texts[k]? = some l) :
    writtenOf (Pl.settleTo t t.Texts.length).1 k = (l, true) := by
  have hs := h.settleTo t.Texts.length (Nat.le_refl _)
  have el : tAt t (k : Int) = l := tAt_of (by simpa using hl)
  have hk' : k < (Pl.settleTo t t.Texts.length).1.Texts.length := by rw [hs.2.2.1]; exact hk
  have hl' : (Pl.settleTo t t.Texts.length).1.Texts[k]? = some l := by rw [hs.2.2.1]; exact hl
  obtain ⟨w1, w2, w3, b, w4, w5⟩ := once_texts hs.1 hk' hl'
  have eb : iAt (Pl.settleTo t t.Texts.length).1.Heard (k : Int) = b := iAt_of (by simpa using w4)
  have h6 := hs.2.2.2 k hk
  rw [eb, el] at h6
  rw [w1, w3, List.take_of_length_le (by omega)]
end Pl
end Go.Proofs.Ytaepohocabealaa

/-
  Contracts: drawn tellers (chapter 10): UNDER WAY, does not end yet. No conditions.
-/
namespace Go.Proofs.Ytaepohocabealaa
open Go.RowKit
attribute [local go_sem] und_cell cha_cell World.cell?_alloc_some
set_option maxRecDepth 100000 in
set_option maxHeartbeats 4000000 in
theorem tell_c (code : List Int) (A : Option Addr) (n c g K : Nat) (w : World) (B : Nat) (hc : Mm.SlAt Mm.u8 w B code A n c) (hBg : B ≤ g) (h : (Mm.tcur 85 A n c g K).holds w) (hK : K < 4611686018427370000) :
    Calls Try.prog 55 #[.pointer (some ⟨g, 0, none⟩)] w fun e w' => ∃ (t : Tell) (cs : List Value) (fp : List Nat), e = .returned (.agg cs.toArray) ∧ 1 ≤ t.Texts.length ∧ t.Texts.length ≤ 4 ∧ Mm.SepF [g] w w' [Mm.tow rTell t cs fp, Mm.tcur 85 A n c g (K + 3000)] := by
  have hgw : g < w.heap.size := (Mm.tcur 85 A n c g K).lt h g (by simp [Mm.tcur])
  have HC := Lib.hid hc
  obtain ⟨gr, hgr⟩ : ∃ gr, w.heap.size = gr := ⟨_, rfl⟩
  obtain ⟨W0, hW0⟩ : ∃ W0, w.alloc (.cells #[.slice none 0 0, .slice none 0 0, .slice none 0 0, .slice none 0 0, .slice none 0 0] 31) = W0 := ⟨_, rfl⟩
  have H0 : Mm.SepF [g] w w [Mm.tcur 85 A n c g K] := Mm.SepF.one (Mm.tcur 85 A n c g K) w h (by simp [Mm.tcur])
  have HS := Lib.hid ((H0.alloc' hgr 31 zTell).atW hW0)
  clear hc h H0
  go_enter Try.func55, Try.ntmps55
  go_upto_region 1 with fail
  clear hW0
  go_upto_region 2 with ((go_at_call 45); (refine (pick_c code A n c g _ _ _ B (HC.out.keep fun b hb => HS.out.chg.block b (by omega) (by simp; omega)) hBg (HS.out.at_ 1 rfl) (by omega) (by omega)).mono ?_); (rintro e w1 ⟨b1, rfl, b10, b1x, b11, hL⟩); ((have HS := Lib.hid (HS.out.call 1 rfl hL))); (clear hL))
  have b12 := b11 (by omega)
  clear b11
  obtain ⟨mm, hmm⟩ : ∃ mm : Int, 1 + b1 = mm := ⟨_, rfl⟩
  have hmi : Pl.isIn mm 1 4 = true := Pl.isIn_iff'.2 (by omega)
  go_upto_region 3 with first
    | (go_at_call 46; refine (tellSteps_c code A n c g _ _ _ B (HC.out.keep fun b hb => HS.out.chg.block b (by omega) (by simp; omega)) hBg (HS.out.at_ 1 rfl) (by omega) (by omega)).mono ?_; rintro e w2 ⟨l, A1, n1, c1, fps, rfl, hl, hS⟩; (have HS2 := Lib.hid (HS.out.callAll 1 rfl hS)); clear hS)
    | (go_at_call 10; refine (specPlayTell_c _ l A1 n1 c1 w2 _ ((HS2.out.sl 2 rfl).weak (HS2.out.sl 2 rfl).olt) (Nat.le_refl _)).mono ?_; rintro e w3 ⟨cs, A2, n2, c2, fp0, fp1, rfl, hs3⟩; obtain ⟨a0, k0, a1, k1, a2, k2, a3, k3, a4, k4, rfl⟩ := own_form (hs3.at_ 0 rfl); (have HS3 := Lib.hid (HS2.out.join hs3)); clear hs3)
  obtain ⟨x, bs, ok, hr⟩ : ∃ x bs ok, Pl.playTell mm l = (x, bs, ok) := ⟨_, _, _, rfl⟩
  have HRR := Lib.hid hr
  rw [hr] at HS3 ⊢
  clear hr
  dsimp only at HS3 ⊢
  obtain ⟨g4, hg4⟩ : ∃ g4, w3.heap.size = g4 := ⟨_, rfl⟩
  obtain ⟨W4, hW4⟩ : ∃ W4, w3.alloc (.cells #[.slice a0 x.Texts.length k0, .slice a1 x.Heard.length k1, .slice a2 x.Line.length k2, .slice a3 x.Log.length k3, .slice a4 x.Next.length k4] 31) = W4 := ⟨_, rfl⟩
  have HS4 := Lib.hid ((HS3.out.alloc' hg4 31 [.slice a0 x.Texts.length k0, .slice a1 x.Heard.length k1, .slice a2 x.Line.length k2, .slice a3 x.Log.length k3, .slice a4 x.Next.length k4]).atW hW4)
  rw [hW4, hg4]
  clear hW4 hg4
  have HS5 := Lib.hid ((HS4.out.toPtr).sel [0, 2, 5] (by decide) rfl)
  have HS6 := Lib.hid (HS4.out.sel [0, 3, 6] (by decide) rfl)
  clear HS4 HS3 HS2 HS
  go_upto_if 20 with fail
  go_cut [] (fun wx => ∃ (y : Tell) (fp : List Nat), Hid (Pl.GoodP y ∧ Mm.SepF [g] w wx [Mm.tptr rTell 31 g4 y fp, Mm.tblk gr 31 zTell, Mm.tcur 85 A n c g (K + 2001)]))
  case first =>
    cases ok with
    | true =>
      have HG : Pl.GoodP x := by
        have h := HRR.out
        unfold Pl.playTell at h
        split at h
        · injection h with h _
          have h2 := (Pl.GoodP.new (n := mm.toNat) (by omega) (by omega)).play _ l rfl
          rw [h] at h2
          exact h2.1
        · injection h with _ h; injection h with _ h; cases h
      go_wp2_with fail
      go_meet
      exact ⟨x, _, Lib.hid ⟨HG, HS5.out⟩⟩
    | false =>
      have CN := specNewTell_c 1 W4
      rw [show Pl.newTell 1 = (Pl.newTe 1, true) from rfl] at CN
      go_wp2_with (go_at_call 28; (with_reducible refine CN.mono ?_); clear CN; rintro e w5 ⟨cs, fp5, rfl, ho, hnd, hnew, hb5⟩; obtain ⟨e0, j0, e1, j1, e2, j2, e3, j3, e4, j4, rfl⟩ := own_form ho; (have HS7 := Lib.hid (HS6.out.add hb5 (t := Mm.tow rTell (Pl.newTe 1) _ _) ho hnd hnew)); clear ho hnd hnew hb5; (have b0 := HS7.out.cell (k := 0) 1 rfl rfl); (have z0 := HS7.out.frz (k := 0) 1 rfl); (have b1 := HS7.out.cell (k := 1) 1 rfl rfl); (have z1 := HS7.out.frz (k := 1) 1 rfl); (have b2 := HS7.out.cell (k := 2) 1 rfl rfl); (have z2 := HS7.out.frz (k := 2) 1 rfl); (have b3 := HS7.out.cell (k := 3) 1 rfl rfl); (have z3 := HS7.out.frz (k := 3) 1 rfl); (have b4 := HS7.out.cell (k := 4) 1 rfl rfl); (have z4 := HS7.out.frz (k := 4) 1 rfl))
      go_meet
      have HS8 := Lib.hid (((((HS7.out.setBlk (k := 0) 1 rfl (.slice e0 (Pl.newTe 1).Texts.length j0)).setBlk (k := 1) 1 rfl (.slice e1 (Pl.newTe 1).Heard.length j1)).setBlk (k := 2) 1 rfl (.slice e2 (Pl.newTe 1).Line.length j2)).setBlk (k := 3) 1 rfl (.slice e3 (Pl.newTe 1).Log.length j3)).setBlk (k := 4) 1 rfl (.slice e4 (Pl.newTe 1).Next.length j4))
      have HS9 := Lib.hid ((HS8.out.sel [1, 0, 2, 3] (by decide) rfl).toPtr)
      exact ⟨Pl.newTe 1, _, Lib.hid ⟨Pl.GoodP.new (Nat.le_refl _) (by omega), HS9.out⟩⟩
  case rest =>
  clear HS5 HS6 HRR
  obtain ⟨y, fp, HY⟩ := hcut
  obtain ⟨W5, rfl⟩ : ∃ W5 : World, W5 = w1 := ⟨_, rfl⟩
  have HS := Lib.hid HY.out.2
  have HGY := Lib.hid HY.out.1
  clear HY
  go_upto_block 0 with ((go_at_call 45); (refine (pick_c code A n c g _ _ _ B (HC.out.keep fun b hb => HS.out.chg.block b (by omega) (by simp; omega)) hBg (HS.out.at_ 2 rfl) (by omega) (by omega)).mono ?_); (rintro e w1 ⟨b2, rfl, b20, b2x, b21, hL⟩); ((have HS := Lib.hid (HS.out.call 2 rfl hL))); (clear hL))
  obtain ⟨A0, n0, c0, A3', n1', c1', A2', n2', c2', A5, n3, c3, A4, n4, c4, f0, f1, f2, f3, f4, rfl, hs⟩ := open_Tell HS.out
  have HSo := Lib.hid hs
  clear hs
  go_cut [] (fun wx => ∃ (t : Tell) (fp : List Nat), 1 ≤ t.Texts.length ∧ t.Texts.length ≤ 4 ∧ Hid (Mm.SepF [g] w wx [Mm.tptr rTell 31 g4 t fp, Mm.tblk gr 31 zTell, Mm.tcur 85 A n c g (K + 2010)]))
  case first =>
    have hp := Pl.good_pre HGY.out.pre
    by_cases h0 : b2 = 0
    · subst h0
      have hl1 : y.Next.length = y.Texts.length := by omega
      obtain ⟨gn, hgn, -, -⟩ := Mm.sl_addr (HSo.out.sl 5 rfl) (by omega)
      subst hgn
      obtain ⟨a, ha⟩ : ∃ a, y.Next[0]? = some a := ⟨_, List.getElem?_eq_getElem (by omega)⟩
      have hab : 0 ≤ a ∧ a ≤ 20 := by
        obtain ⟨l', a', b', d1, d2, d3, j1, j2, j3, j4⟩ := HGY.out.at_ (k := 0) (by omega)
        have hd : y.Next[0]? = some a' := d2
        rw [ha] at hd; injection hd with hd
        omega
      have hnl : n4 = y.Next.length := by obtain ⟨A', n', c', hv, q1, _⟩ := (HSo.out.sl 5 rfl).form; injection hv with _ q2 _; omega
      have e1 := int_ocell (HSo.out.sl 5 rfl) (HSo.out.ndat (i := 5) rfl) ha
      have z1 := (HSo.out.sl 5 rfl).frozen 0
      have b4 := HSo.out.cell (k := 4) 0 rfl rfl
      have f1 : (0 : Int) < (n4 : Nat) := by omega
      have hwr : IntKind.i64.wrap (a + 1) = a + 1 := IntWalk.i64_in _ (by omega)
      go_wp2_with fail
      go_meet
      have HS7 := Lib.hid (HSo.out.put1 (k := 0) 5 rfl rfl ha (x' := a + 1) (u := .int .i64 (a + 1)) (fun cs fx hh => by obtain ⟨rfl, _, rfl⟩ := hh; exact ⟨rfl, by unfold Mm.I64; omega, rfl⟩))
      have HS8 := Lib.hid (shut_Tell (x := { y with Next := y.Next.set 0 (a + 1) }) HS7.out)
      exact ⟨{ y with Next := y.Next.set 0 (a + 1) }, _, hp.1.1, hp.1.2, Lib.hid (HS8.out.more 2 rfl (by omega))⟩
    by_cases h1 : b2 = 1
    · subst h1
      have hl1 : y.Heard.length = y.Texts.length := by omega
      obtain ⟨gn, hgn, -, -⟩ := Mm.sl_addr (HSo.out.sl 2 rfl) (by omega)
      subst hgn
      obtain ⟨a, ha⟩ : ∃ a, y.Heard[0]? = some a := ⟨_, List.getElem?_eq_getElem (by omega)⟩
      have hab : 0 ≤ a ∧ a ≤ 20 := by
        obtain ⟨l', a', b', d1, d2, d3, j1, j2, j3, j4⟩ := HGY.out.at_ (k := 0) (by omega)
        have hd : y.Heard[0]? = some b' := d3
        rw [ha] at hd; injection hd with hd
        omega
      have hnl : n1' = y.Heard.length := by obtain ⟨A', n', c', hv, q1, _⟩ := (HSo.out.sl 2 rfl).form; injection hv with _ q2 _; omega
      have e1 := int_ocell (HSo.out.sl 2 rfl) (HSo.out.ndat (i := 2) rfl) ha
      have z1 := (HSo.out.sl 2 rfl).frozen 0
      have b1 := HSo.out.cell (k := 1) 0 rfl rfl
      have f1 : (0 : Int) < (n1' : Nat) := by omega
      have hwr : IntKind.i64.wrap (a + 1) = a + 1 := IntWalk.i64_in _ (by omega)
      go_wp2_with fail
      go_meet
      have HS7 := Lib.hid (HSo.out.put1 (k := 0) 2 rfl rfl ha (x' := a + 1) (u := .int .i64 (a + 1)) (fun cs fx hh => by obtain ⟨rfl, _, rfl⟩ := hh; exact ⟨rfl, by unfold Mm.I64; omega, rfl⟩))
      have HS8 := Lib.hid (shut_Tell (x := { y with Heard := y.Heard.set 0 (a + 1) }) HS7.out)
      exact ⟨{ y with Heard := y.Heard.set 0 (a + 1) }, _, hp.1.1, hp.1.2, Lib.hid (HS8.out.more 2 rfl (by omega))⟩
    by_cases h2 : b2 = 2
    · subst h2
      have b2 := HSo.out.cell (k := 2) 0 rfl rfl
      have hl2 : n2' = y.Line.length := by obtain ⟨A', n', c', hv, q1, _⟩ := (HSo.out.sl 3 rfl).form; injection hv with _ q2 _; omega
      have hl3 := (HSo.out.sl 3 rfl).weak (HSo.out.sl 3 rfl).olt
      have hl4 : n2' ≤ c2' ∧ c2' ≤ maxLen := ⟨hl3.2.1, hl3.2.2.1⟩
      have hl5 : n2' ≤ 30 := by have := hp.1; omega
      have HL2 := Lib.hid hl2
      clear hl2 hl3
      have HSD := Lib.hid (HSo.out.step (Below.refl _ _).drew)
      have bd := HSD.out.cell (k := 2) 0 rfl rfl
      obtain ⟨i0, hi, hz0, hz1, hz2⟩ := info_parts Try.infoNote
      go_wp2
      go_region_law (first
          | (go_simp; (go_at_call 87); (refine (one_c code A n c g _ _ _ B (HC.out.keep fun b hb => HSD.out.chg.block b (by omega) (by simp; omega)) hBg (HSD.out.at_ 7 rfl) (by omega) (by omega)).mono ?_); (rintro e w1 ⟨bk, rfl, hL⟩); ((have HS := Lib.hid (HSD.out.call 7 rfl hL))); (clear hL); (have HSa := HS); (have ba := HS.out.cell (k := 2) 0 rfl rfl); clear HSD HS)
          | (go_simp; (go_at_call 45); (refine (pick_c code A n c g _ _ _ B (HC.out.keep fun b hb => HSa.out.chg.block b (by omega) (by simp; omega)) hBg (HSa.out.at_ 7 rfl) (by omega) (by omega)).mono ?_); (rintro e w1 ⟨p1, rfl, p10, p1x, p11, hL⟩); ((have HS := Lib.hid (HSa.out.call 7 rfl hL))); (clear hL); (have HSb := HS); (have bb := HS.out.cell (k := 2) 0 rfl rfl); clear HSa HS)
          | (go_simp; (go_at_call 45); (refine (pick_c code A n c g _ _ _ B (HC.out.keep fun b hb => HSb.out.chg.block b (by omega) (by simp; omega)) hBg (HSb.out.at_ 7 rfl) (by omega) (by omega)).mono ?_); (rintro e w1 ⟨p2, rfl, p20, p2x, p21, hL⟩); ((have HS := Lib.hid (HSb.out.call 7 rfl hL))); (clear hL); (have HSc := HS); (have bc := HS.out.cell (k := 2) 0 rfl rfl); clear HSb HS)
          | (obtain ⟨l0, ho2, hnext⟩ := HSc.out.push0 3 rfl (below_new (Below.refl _ _) (.cells #[.bool bk, .int .i64 p1, .int .i64 p2, .string ⟨#[97]⟩] 94)) (x := ⟨bk, ⟨p1, p2, ⟨#[97]⟩⟩⟩) (rNote_own_mk ⟨by unfold Mm.I64; dsimp only; omega, by unfold Mm.I64; dsimp only; omega, (by show (⟨#[97]⟩ : ByteArray).size ≤ maxLen; decide)⟩); rw [← HL2.out] at ho2 hnext; refine step_append_lies _ (by rfl) _ _ _ (by rfl) 0 94 i0 _ 4 40 Try.underlying28 hi hz0 hz1 hz2 rfl (by omega) _ n2' l0 (by rfl) ho2 ⟨_, 0, none⟩ 1 1 [.bool bk, .int .i64 p1, .int .i64 p2, .string ⟨#[97]⟩] (by rfl) (by rfl) (World.news_of_block (cs := #[.bool bk, .int .i64 p1, .int .i64 p2, .string ⟨#[97]⟩]) (t := 94) (fr := (0, 0)) (heap_alloc_new _ _)) (by simp [Value.oneCell']) (by omega) (by unfold maxLen; omega) (by omega) (Nat.zero_le _) _ rfl ?_; intro gg cap w3 hown1 hgrow hat hlt'; obtain ⟨fpE, hsE⟩ := hnext gg cap w3 hown1 hgrow hat; (have HSE := Lib.hid hsE); (have zE := HSE.out.frz (k := 2) 0 rfl); (have cE := HSE.out.cell (k := 2) 0 rfl rfl); clear hsE hown1 hgrow hat hlt' hnext ho2))
      all_goals
        go_wp2_with fail
        go_meet
        have HS7 := Lib.hid (HSE.out.setBlk (k := 2) 0 rfl (.slice (some ⟨gg, 0, none⟩) (n2' + 1) cap))
        have HS8 := Lib.hid (shut_Tell (x := { y with Line := y.Line ++ [⟨bk, ⟨p1, p2, ⟨#[97]⟩⟩⟩] }) HS7.out)
        exact ⟨{ y with Line := y.Line ++ [⟨bk, ⟨p1, p2, ⟨#[97]⟩⟩⟩] }, _, hp.1.1, hp.1.2, Lib.hid (HS8.out.more 2 rfl (by omega))⟩
    go_wp2_with fail
    go_meet
    exact ⟨y, _, hp.1.1, hp.1.2, Lib.hid (HS.out.more 2 rfl (by omega))⟩
  case rest =>
  clear HSo HS
  obtain ⟨t, fp, hq1, hq2, HSC⟩ := hcut
  obtain ⟨cs, hsp⟩ := HSC.out.ofPtr
  obtain ⟨p0, q0, p1, q1, p2, q2, p3, q3, p4, q4, rfl⟩ := own_form (hsp.at_ 1 rfl)
  have HSP := Lib.hid hsp
  clear hsp HSC
  have b0 := HSP.out.cell (k := 0) 0 rfl rfl
  have r0 := HSP.out.cell (k := 0) 2 rfl rfl
  have z0 := HSP.out.frz (k := 0) 2 rfl
  have b1 := HSP.out.cell (k := 1) 0 rfl rfl
  have r1 := HSP.out.cell (k := 1) 2 rfl rfl
  have z1 := HSP.out.frz (k := 1) 2 rfl
  have b2 := HSP.out.cell (k := 2) 0 rfl rfl
  have r2 := HSP.out.cell (k := 2) 2 rfl rfl
  have z2 := HSP.out.frz (k := 2) 2 rfl
  have b3 := HSP.out.cell (k := 3) 0 rfl rfl
  have r3 := HSP.out.cell (k := 3) 2 rfl rfl
  have z3 := HSP.out.frz (k := 3) 2 rfl
  have b4 := HSP.out.cell (k := 4) 0 rfl rfl
  have r4 := HSP.out.cell (k := 4) 2 rfl rfl
  have z4 := HSP.out.frz (k := 4) 2 rfl
  go_wp2_with fail
  have HS8 := Lib.hid (((((HSP.out.setBlk (k := 0) 2 rfl (.slice p0 t.Texts.length q0)).setBlk (k := 1) 2 rfl (.slice p1 t.Heard.length q1)).setBlk (k := 2) 2 rfl (.slice p2 t.Line.length q2)).setBlk (k := 3) 2 rfl (.slice p3 t.Log.length q3)).setBlk (k := 4) 2 rfl (.slice p4 t.Next.length q4))
  have s0 := HS8.out.cell (k := 0) 2 rfl rfl
  have s1 := HS8.out.cell (k := 1) 2 rfl rfl
  have s2 := HS8.out.cell (k := 2) 2 rfl rfl
  have s3 := HS8.out.cell (k := 3) 2 rfl rfl
  have s4 := HS8.out.cell (k := 4) 2 rfl rfl
  exact bodyPost_ret (v := .agg #[.slice p0 t.Texts.length q0, .slice p1 t.Heard.length q1, .slice p2 t.Line.length q2, .slice p3 t.Log.length q3, .slice p4 t.Next.length q4]) (by simp [results, Try.results55, go_sem, s0, s1, s2, s3, s4]) rfl ⟨t, _, _, rfl, hq1, hq2, (HS8.out.sel [1, 3] (by decide) rfl).more 1 rfl (by omega)⟩
end Go.Proofs.Ytaepohocabealaa
