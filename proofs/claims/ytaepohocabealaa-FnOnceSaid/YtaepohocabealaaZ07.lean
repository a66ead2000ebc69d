/-
  Joined texts, in build order: Su, Pq, Sv, Sy, He, Hs. Each part says what it proves; no conditions beyond those that a part names.
-/
import Derived.Test.YtaepohocabealaaZ01
import Derived.Test.YtaepohocabealaaZ02
import Derived.Test.YtaepohocabealaaZ03
import Derived.Test.YtaepohocabealaaZ04
import Derived.Test.YtaepohocabealaaZ05
import Derived.Test.YtaepohocabealaaZ06
import Derived.Lib.Hide
import Derived.Deep.DeepFit
/-
  Contracts: StepTell, the reference's (chapter 10). No conditions.
-/
namespace Go.Proofs.Ytaepohocabealaa
open Go.RowKit
attribute [local go_sem] und_cell cha_cell World.cell?_alloc_some
set_option maxRecDepth 100000 in
set_option maxHeartbeats 4000000 in
theorem specStepTell_c (t : Tell) (cs : List Value) (s : TellStep) (cs2 : List Value) (w : World) (B : Nat) (ht : rTell.at_ w B t cs) (hs : rTellStep.at_ w B s cs2) (hB : B ≤ w.heap.size) :
    Calls Try.prog 19 #[.agg cs.toArray, .agg cs2.toArray] w (Mm.Ret2 rTell w (Pl.stepTell t s).1 (Pl.stepTell t s).2) := by
  obtain ⟨A0, n0, c0, A1, n1, c1, A2, n2, c2, A3, n3, c3, A4, n4, c4, rfl, -⟩ := rTell_at ht
  obtain ⟨rfl, hmi⟩ := rTellStep_at hs
  have HMI := Lib.hid hmi
  have HRT := Lib.hid ht
  clear ht hs hmi
  go_enter Try.func19, Try.ntmps19
  go_upto_region 1 with fail
  obtain ⟨ga, hga⟩ : ∃ ga, w.heap.size = ga := ⟨_, rfl⟩
  obtain ⟨gs, hgs⟩ : ∃ gs, ga + 1 = gs := ⟨_, rfl⟩
  obtain ⟨gr, hgr⟩ : ∃ gr, gs + 1 = gr := ⟨_, rfl⟩
  obtain ⟨W0, hW0⟩ : ∃ W0, ((w.alloc (.cells #[.slice A0 n0 c0, .slice A1 n1 c1, .slice A2 n2 c2, .slice A3 n3 c3, .slice A4 n4 c4] 31)).alloc (.cells #[.int .i64 s.Kind, .int .i64 s.K, .string s.Text] 46)).alloc (.cells #[.slice none 0 0, .slice none 0 0, .slice none 0 0, .slice none 0 0, .slice none 0 0] 31) = W0 := ⟨_, rfl⟩
  have HS := Lib.hid (((((Mm.SepF.start w).alloc' hga 31 [.slice A0 n0 c0, .slice A1 n1 c1, .slice A2 n2 c2, .slice A3 n3 c3, .slice A4 n4 c4]).alloc' (g := gs) (by rw [Mm.sz1, hga, hgs]) 46 [.int .i64 s.Kind, .int .i64 s.K, .string s.Text]).alloc' (g := gr) (by rw [Mm.sz2, hga]; omega) 31 zTell).atW hW0)
  rw [hW0, hga, hgs, hgr]
  have HGA := Lib.hid hga
  clear hW0 hga hgs hgr
  have HRT0 := Lib.hid (rTell.keep HRT.out (w' := W0) fun b hb => HS.out.bel0.block b (by omega))
  have HBW := Lib.hid (Nat.le_trans hB HS.out.chg.size)
  have HSR := HS
  have b0 := HSR.out.cell (k := 0) 2 rfl rfl
  have b1 := HSR.out.cell (k := 1) 2 rfl rfl
  have b2 := HSR.out.cell (k := 2) 2 rfl rfl
  have b3 := HSR.out.cell (k := 3) 2 rfl rfl
  have b4 := HSR.out.cell (k := 4) 2 rfl rfl
  have r0 := HSR.out.cell (k := 0) 0 rfl rfl
  have r1 := HSR.out.cell (k := 1) 0 rfl rfl
  have r2 := HSR.out.cell (k := 2) 0 rfl rfl
  have r3 := HSR.out.cell (k := 3) 0 rfl rfl
  have r4 := HSR.out.cell (k := 4) 0 rfl rfl
  have z0 := HSR.out.frz (k := 0) 0 rfl
  have z1 := HSR.out.frz (k := 1) 0 rfl
  have z2 := HSR.out.frz (k := 2) 0 rfl
  have z3 := HSR.out.frz (k := 3) 0 rfl
  have z4 := HSR.out.frz (k := 4) 0 rfl
  obtain ⟨gd, hgd⟩ : ∃ gd, Pl.goodTell t = gd := ⟨_, rfl⟩
  have HGD := Lib.hid hgd
  clear hgd
  have CI := GoodTell_c t _ W0 B HRT0.out HBW.out
  rw [HGD.out] at CI
  cases gd with
  | false =>
    have HF : Hid (Pl.stepTell t s = (Pl.zTe, false)) := if_neg (fun h => by rw [HGD.out] at h; cases h.1)
    go_wp2_with (go_at_call 20; refine CI.mono ?_; rintro e w1 ⟨rfl, hb1⟩; (have HSR := Lib.hid (HS.out.step hb1)); (clear b0 b1 b2 b3 b4 r0 r1 r2 r3 r4 z0 z1 z2 z3 z4); (have r0 := HSR.out.cell (k := 0) 0 rfl rfl); (have r1 := HSR.out.cell (k := 1) 0 rfl rfl); (have r2 := HSR.out.cell (k := 2) 0 rfl rfl); (have r3 := HSR.out.cell (k := 3) 0 rfl rfl); (have r4 := HSR.out.cell (k := 4) 0 rfl rfl); (have z0 := HSR.out.frz (k := 0) 0 rfl); (have z1 := HSR.out.frz (k := 1) 0 rfl); (have z2 := HSR.out.frz (k := 2) 0 rfl); (have z3 := HSR.out.frz (k := 3) 0 rfl); (have z4 := HSR.out.frz (k := 4) 0 rfl))
    rw [HF.out]
    have HSF := Lib.hid (((((HSR.out.setBlk (k := 0) 0 rfl (.slice none 0 0)).setBlk (k := 1) 0 rfl (.slice none 0 0)).setBlk (k := 2) 0 rfl (.slice none 0 0)).setBlk (k := 3) 0 rfl (.slice none 0 0)).setBlk (k := 4) 0 rfl (.slice none 0 0))
    have q0 := HSF.out.cell (k := 0) 0 rfl rfl
    have q1 := HSF.out.cell (k := 1) 0 rfl rfl
    have q2 := HSF.out.cell (k := 2) 0 rfl rfl
    have q3 := HSF.out.cell (k := 3) 0 rfl rfl
    have q4 := HSF.out.cell (k := 4) 0 rfl rfl
    exact bodyPost_ret (v := .tuple #[.agg zTell.toArray, .bool false]) (by simp [results, Try.results19, go_sem, zTell, q0, q1, q2, q3, q4]) rfl (zTe_ret2 HSF.out.bel0)
  | true =>
    have HWF := Lib.hid (Pl.good_wf HGD.out)
    obtain ⟨⟨t', is⟩, hr⟩ : ∃ r, Pl.tstep t s = r := ⟨_, rfl⟩
    have HR := Lib.hid hr
    clear hr
    have hwf' := HWF.out.step s
    rw [HR.out] at hwf'
    have HWF' := Lib.hid hwf'
    clear hwf'
    cases is with
    | false =>
      have HF : Hid (Pl.stepTell t s = (Pl.zTe, false)) := if_neg (fun h => by rw [HR.out] at h; cases h.2)
      go_wp2_with (go_at_call 20; refine CI.mono ?_; rintro e W1 ⟨rfl, hb1⟩; (have HS1 := Lib.hid (HS.out.step hb1)); (have HRT1 := Lib.hid (rTell.keep HRT0.out (w' := W1) fun b hb => hb1.block b (Nat.lt_of_lt_of_le hb HBW.out))); (have HBW1 := Lib.hid (Nat.le_trans HBW.out hb1.size)); (clear b0 b1 b2 b3 b4 r0 r1 r2 r3 r4 z0 z1 z2 z3 z4); clear hb1; (have b0 := HS1.out.cell (k := 0) 2 rfl rfl); (have b1 := HS1.out.cell (k := 1) 2 rfl rfl); (have b2 := HS1.out.cell (k := 2) 2 rfl rfl); (have b3 := HS1.out.cell (k := 3) 2 rfl rfl); (have b4 := HS1.out.cell (k := 4) 2 rfl rfl); (have s0 := HS1.out.cell (k := 0) 1 rfl rfl); (have s1 := HS1.out.cell (k := 1) 1 rfl rfl); (have s2 := HS1.out.cell (k := 2) 1 rfl rfl))
      refine Mm.wp_region_give 9 (fun i => match i with | 1 => some (gTe t) | 3 => some (gTe2 t' false) | 7 => some (Mm.gPtr 31 zTell) | 8 => some (Mm.gSto 31) | _ => none) (fun i => match i with | 3 => [1] | 8 => [7] | _ => []) (fun _ => []) (F := []) (D := fun w' => ∃ x : Und W1, w' = und W1 x) (fun X us h => Mm.sep_und h) (by kernel_rfl) (by kernel_rfl) (by kernel_rfl) (Mm.SepF.startDrew _) ?_
      repeat (refine Mm.give_det (by rfl) (by rfl) (by rfl) (fun K hK => ?_); go_big_quiet_op; refine hK _ ?_; clear hK K)
      refine Mm.give_op0 14 (by rfl) rfl (by rfl) (by rfl) (by rfl) (by rfl) gTe_in (fun others X hX => ?_) ?_
      · go_wp2_with (go_at_call 51; refine (l10Own_c t _ X B (rTell.keep HRT1.out (fun b hb => hX.bel0.block b (Nat.lt_of_lt_of_le hb HBW1.out))) (Nat.le_trans HBW1.out hX.chg.size) HWF.out.sz).mono ?_; rintro e w5 ⟨cs5, fp5, rfl, ho, hnd, hnew, hb5⟩; obtain ⟨a0, k0, a1, k1, a2, k2, a3, k3, a4, k4, rfl⟩ := own_form ho)
        exact ⟨rfl, rfl, _, ⟨a0, k0, a1, k1, a2, k2, a3, k3, a4, k4, fp5, rfl, rfl⟩, hX.add hb5 (t := Mm.tow rTell t _ _) ho hnd hnew⟩
      rintro v ds ⟨a0, k0, a1, k1, a2, k2, a3, k3, a4, k4, fp5, rfl, rfl⟩
      simp only [Act.put, List.setIfInBounds_toArray, List.set_cons_succ, List.set_cons_zero]
      repeat (refine Mm.give_det (by rfl) (by rfl) (by rfl) (fun K hK => ?_); go_big_quiet_op; refine hK _ ?_; clear hK K)
      refine Mm.give_op1 16 1 (by rfl) rfl (by rfl) (by rfl) (by rfl) rfl (by rfl) _ rfl gTe2_in (fun others X hX => ?_) ?_
      · go_wp2_with (go_at_call 50; refine (l10Step_c t s _ fp5 X (hX.at_ 0 rfl) (hX.ndat (i := 0) rfl) HMI.out.2 HWF.out).mono ?_; rintro e w6 ⟨cs6, fp6, rfl, hL⟩; rw [HR.out] at hL; rw [HR.out])
        have h9 := hX.call 0 rfl hL
        obtain ⟨a0, k0, a1, k1, a2, k2, a3, k3, a4, k4, rfl⟩ := own_form (h9.at_ 0 rfl)
        exact ⟨rfl, rfl, _, ⟨a0, k0, a1, k1, a2, k2, a3, k3, a4, k4, fp6, rfl, rfl⟩, h9⟩
      rintro v ds ⟨a0, k0, a1, k1, a2, k2, a3, k3, a4, k4, fp6, rfl, rfl⟩
      simp only [Act.put, List.setIfInBounds_toArray, List.set_cons_succ, List.set_cons_zero]
      repeat (refine Mm.give_det (by rfl) (by rfl) (by rfl) (fun K hK => ?_); go_big_quiet_op; refine hK _ ?_; clear hK K)
      refine Mm.give_op0 6 (by rfl) rfl (by rfl) (by rfl) (by rfl) (by rfl) Mm.gPtr_in (fun others X hX => ?_) ?_
      · go_wp2
        exact Mm.gvq_ptr hX rfl rfl rfl
      rintro v ds ⟨gp, rfl, rfl⟩
      simp only [Act.put, List.setIfInBounds_toArray, List.set_cons_succ, List.set_cons_zero]
      refine Mm.give_store 31 gp zTell [.slice a0 t'.Texts.length k0, .slice a1 t'.Heard.length k1, .slice a2 t'.Line.length k2, .slice a3 t'.Log.length k3, .slice a4 t'.Next.length k4] 7 (by rfl) rfl rfl (by rfl) rfl (by rfl) rfl rfl (fun others X hX => ?_) ?_
      · have HSR := Lib.hid hX
        have r0 := HSR.out.cell (k := 0) 0 rfl rfl
        have r1 := HSR.out.cell (k := 1) 0 rfl rfl
        have r2 := HSR.out.cell (k := 2) 0 rfl rfl
        have r3 := HSR.out.cell (k := 3) 0 rfl rfl
        have r4 := HSR.out.cell (k := 4) 0 rfl rfl
        have z0 := HSR.out.frz (k := 0) 0 rfl
        have z1 := HSR.out.frz (k := 1) 0 rfl
        have z2 := HSR.out.frz (k := 2) 0 rfl
        have z3 := HSR.out.frz (k := 3) 0 rfl
        have z4 := HSR.out.frz (k := 4) 0 rfl
        go_wp2
        exact ⟨rfl, rfl, _, rfl, (((((hX.setBlk (k := 0) 0 rfl (.slice a0 t'.Texts.length k0)).setBlk (k := 1) 0 rfl (.slice a1 t'.Heard.length k1)).setBlk (k := 2) 0 rfl (.slice a2 t'.Line.length k2)).setBlk (k := 3) 0 rfl (.slice a3 t'.Log.length k3)).setBlk (k := 4) 0 rfl (.slice a4 t'.Next.length k4))⟩
      refine Mm.give_nil ?_
      rintro X hX
      have HS3 := Lib.hid (HS1.out.join (us := [Mm.tow rTell t' [.slice a0 t'.Texts.length k0, .slice a1 t'.Heard.length k1, .slice a2 t'.Line.length k2, .slice a3 t'.Log.length k3, .slice a4 t'.Next.length k4] fp6, Mm.tblk gp 31 [.slice a0 t'.Texts.length k0, .slice a1 t'.Heard.length k1, .slice a2 t'.Line.length k2, .slice a3 t'.Log.length k3, .slice a4 t'.Next.length k4]]) hX)
      clear hX
      have HSR := Lib.hid (HS3.out.sel [2, 3, 4] (by decide) rfl)
      clear b0 b1 b2 b3 b4 s0 s1 s2
      have r0 := HSR.out.cell (k := 0) 0 rfl rfl
      have r1 := HSR.out.cell (k := 1) 0 rfl rfl
      have r2 := HSR.out.cell (k := 2) 0 rfl rfl
      have r3 := HSR.out.cell (k := 3) 0 rfl rfl
      have r4 := HSR.out.cell (k := 4) 0 rfl rfl
      have z0 := HSR.out.frz (k := 0) 0 rfl
      have z1 := HSR.out.frz (k := 1) 0 rfl
      have z2 := HSR.out.frz (k := 2) 0 rfl
      have z3 := HSR.out.frz (k := 3) 0 rfl
      have z4 := HSR.out.frz (k := 4) 0 rfl
      go_wp2
      rw [HF.out]
      have HSF := Lib.hid (((((HSR.out.setBlk (k := 0) 0 rfl (.slice none 0 0)).setBlk (k := 1) 0 rfl (.slice none 0 0)).setBlk (k := 2) 0 rfl (.slice none 0 0)).setBlk (k := 3) 0 rfl (.slice none 0 0)).setBlk (k := 4) 0 rfl (.slice none 0 0))
      have q0 := HSF.out.cell (k := 0) 0 rfl rfl
      have q1 := HSF.out.cell (k := 1) 0 rfl rfl
      have q2 := HSF.out.cell (k := 2) 0 rfl rfl
      have q3 := HSF.out.cell (k := 3) 0 rfl rfl
      have q4 := HSF.out.cell (k := 4) 0 rfl rfl
      exact bodyPost_ret (v := .tuple #[.agg zTell.toArray, .bool false]) (by simp [results, Try.results19, go_sem, zTell, q0, q1, q2, q3, q4]) rfl (zTe_ret2 HSF.out.bel0)
    | true =>
      have HF : Hid (Pl.stepTell t s = (t', true)) := Lib.hid (by unfold Pl.stepTell; rw [if_pos (by rw [HR.out]; exact ⟨HGD.out, rfl⟩), HR.out])
      go_wp2_with (go_at_call 20; refine CI.mono ?_; rintro e W1 ⟨rfl, hb1⟩; (have HS1 := Lib.hid (HS.out.step hb1)); (have HRT1 := Lib.hid (rTell.keep HRT0.out (w' := W1) fun b hb => hb1.block b (Nat.lt_of_lt_of_le hb HBW.out))); (have HBW1 := Lib.hid (Nat.le_trans HBW.out hb1.size)); (clear b0 b1 b2 b3 b4 r0 r1 r2 r3 r4 z0 z1 z2 z3 z4); clear hb1; (have b0 := HS1.out.cell (k := 0) 2 rfl rfl); (have b1 := HS1.out.cell (k := 1) 2 rfl rfl); (have b2 := HS1.out.cell (k := 2) 2 rfl rfl); (have b3 := HS1.out.cell (k := 3) 2 rfl rfl); (have b4 := HS1.out.cell (k := 4) 2 rfl rfl); (have s0 := HS1.out.cell (k := 0) 1 rfl rfl); (have s1 := HS1.out.cell (k := 1) 1 rfl rfl); (have s2 := HS1.out.cell (k := 2) 1 rfl rfl))
      refine Mm.wp_region_give 9 (fun i => match i with | 1 => some (gTe t) | 3 => some (gTe2 t' true) | 7 => some (Mm.gPtr 31 zTell) | 8 => some (Mm.gSto 31) | _ => none) (fun i => match i with | 3 => [1] | 8 => [7] | _ => []) (fun _ => []) (F := []) (D := fun w' => ∃ x : Und W1, w' = und W1 x) (fun X us h => Mm.sep_und h) (by kernel_rfl) (by kernel_rfl) (by kernel_rfl) (Mm.SepF.startDrew _) ?_
      repeat (refine Mm.give_det (by rfl) (by rfl) (by rfl) (fun K hK => ?_); go_big_quiet_op; refine hK _ ?_; clear hK K)
      refine Mm.give_op0 14 (by rfl) rfl (by rfl) (by rfl) (by rfl) (by rfl) gTe_in (fun others X hX => ?_) ?_
      · go_wp2_with (go_at_call 51; refine (l10Own_c t _ X B (rTell.keep HRT1.out (fun b hb => hX.bel0.block b (Nat.lt_of_lt_of_le hb HBW1.out))) (Nat.le_trans HBW1.out hX.chg.size) HWF.out.sz).mono ?_; rintro e w5 ⟨cs5, fp5, rfl, ho, hnd, hnew, hb5⟩; obtain ⟨a0, k0, a1, k1, a2, k2, a3, k3, a4, k4, rfl⟩ := own_form ho)
        exact ⟨rfl, rfl, _, ⟨a0, k0, a1, k1, a2, k2, a3, k3, a4, k4, fp5, rfl, rfl⟩, hX.add hb5 (t := Mm.tow rTell t _ _) ho hnd hnew⟩
      rintro v ds ⟨a0, k0, a1, k1, a2, k2, a3, k3, a4, k4, fp5, rfl, rfl⟩
      simp only [Act.put, List.setIfInBounds_toArray, List.set_cons_succ, List.set_cons_zero]
      repeat (refine Mm.give_det (by rfl) (by rfl) (by rfl) (fun K hK => ?_); go_big_quiet_op; refine hK _ ?_; clear hK K)
      refine Mm.give_op1 16 1 (by rfl) rfl (by rfl) (by rfl) (by rfl) rfl (by rfl) _ rfl gTe2_in (fun others X hX => ?_) ?_
      · go_wp2_with (go_at_call 50; refine (l10Step_c t s _ fp5 X (hX.at_ 0 rfl) (hX.ndat (i := 0) rfl) HMI.out.2 HWF.out).mono ?_; rintro e w6 ⟨cs6, fp6, rfl, hL⟩; rw [HR.out] at hL; rw [HR.out])
        have h9 := hX.call 0 rfl hL
        obtain ⟨a0, k0, a1, k1, a2, k2, a3, k3, a4, k4, rfl⟩ := own_form (h9.at_ 0 rfl)
        exact ⟨rfl, rfl, _, ⟨a0, k0, a1, k1, a2, k2, a3, k3, a4, k4, fp6, rfl, rfl⟩, h9⟩
      rintro v ds ⟨a0, k0, a1, k1, a2, k2, a3, k3, a4, k4, fp6, rfl, rfl⟩
      simp only [Act.put, List.setIfInBounds_toArray, List.set_cons_succ, List.set_cons_zero]
      repeat (refine Mm.give_det (by rfl) (by rfl) (by rfl) (fun K hK => ?_); go_big_quiet_op; refine hK _ ?_; clear hK K)
      refine Mm.give_op0 6 (by rfl) rfl (by rfl) (by rfl) (by rfl) (by rfl) Mm.gPtr_in (fun others X hX => ?_) ?_
      · go_wp2
        exact Mm.gvq_ptr hX rfl rfl rfl
      rintro v ds ⟨gp, rfl, rfl⟩
      simp only [Act.put, List.setIfInBounds_toArray, List.set_cons_succ, List.set_cons_zero]
      refine Mm.give_store 31 gp zTell [.slice a0 t'.Texts.length k0, .slice a1 t'.Heard.length k1, .slice a2 t'.Line.length k2, .slice a3 t'.Log.length k3, .slice a4 t'.Next.length k4] 7 (by rfl) rfl rfl (by rfl) rfl (by rfl) rfl rfl (fun others X hX => ?_) ?_
      · have HSR := Lib.hid hX
        have r0 := HSR.out.cell (k := 0) 0 rfl rfl
        have r1 := HSR.out.cell (k := 1) 0 rfl rfl
        have r2 := HSR.out.cell (k := 2) 0 rfl rfl
        have r3 := HSR.out.cell (k := 3) 0 rfl rfl
        have r4 := HSR.out.cell (k := 4) 0 rfl rfl
        have z0 := HSR.out.frz (k := 0) 0 rfl
        have z1 := HSR.out.frz (k := 1) 0 rfl
        have z2 := HSR.out.frz (k := 2) 0 rfl
        have z3 := HSR.out.frz (k := 3) 0 rfl
        have z4 := HSR.out.frz (k := 4) 0 rfl
        go_wp2
        exact ⟨rfl, rfl, _, rfl, (((((hX.setBlk (k := 0) 0 rfl (.slice a0 t'.Texts.length k0)).setBlk (k := 1) 0 rfl (.slice a1 t'.Heard.length k1)).setBlk (k := 2) 0 rfl (.slice a2 t'.Line.length k2)).setBlk (k := 3) 0 rfl (.slice a3 t'.Log.length k3)).setBlk (k := 4) 0 rfl (.slice a4 t'.Next.length k4))⟩
      refine Mm.give_nil ?_
      rintro X hX
      have HS3 := Lib.hid (HS1.out.join (us := [Mm.tow rTell t' [.slice a0 t'.Texts.length k0, .slice a1 t'.Heard.length k1, .slice a2 t'.Line.length k2, .slice a3 t'.Log.length k3, .slice a4 t'.Next.length k4] fp6, Mm.tblk gp 31 [.slice a0 t'.Texts.length k0, .slice a1 t'.Heard.length k1, .slice a2 t'.Line.length k2, .slice a3 t'.Log.length k3, .slice a4 t'.Next.length k4]]) hX)
      clear hX
      clear b0 b1 b2 b3 b4 s0 s1 s2
      have u0 := HS3.out.cell (k := 0) 1 rfl rfl
      have u1 := HS3.out.cell (k := 1) 1 rfl rfl
      have u2 := HS3.out.cell (k := 2) 1 rfl rfl
      have u3 := HS3.out.cell (k := 3) 1 rfl rfl
      have u4 := HS3.out.cell (k := 4) 1 rfl rfl
      go_wp2_with (go_at_call 51; refine (l10Own_c t' _ _ X.heap.size (HS3.out.rd 0 rfl) (Nat.le_refl _) HWF'.out.sz).mono ?_; rintro e w5 ⟨cs5, fp5, rfl, ho, hnd, hnew, hb5⟩; obtain ⟨A10, c10, A11, c11, A12, c12, A13, c13, A14, c14, rfl⟩ := own_form ho; (have HSR := Lib.hid (HS3.out.add hb5 (t := Mm.tow rTell t' _ _) ho hnd hnew)); clear ho hnd hnew hb5 u0 u1 u2 u3 u4; (have r0 := HSR.out.cell (k := 0) 3 rfl rfl); (have r1 := HSR.out.cell (k := 1) 3 rfl rfl); (have r2 := HSR.out.cell (k := 2) 3 rfl rfl); (have r3 := HSR.out.cell (k := 3) 3 rfl rfl); (have r4 := HSR.out.cell (k := 4) 3 rfl rfl); (have z0 := HSR.out.frz (k := 0) 3 rfl); (have z1 := HSR.out.frz (k := 1) 3 rfl); (have z2 := HSR.out.frz (k := 2) 3 rfl); (have z3 := HSR.out.frz (k := 3) 3 rfl); (have z4 := HSR.out.frz (k := 4) 3 rfl))
      have HSF := Lib.hid (((((HSR.out.setBlk (k := 0) 3 rfl (.slice A10 t'.Texts.length c10)).setBlk (k := 1) 3 rfl (.slice A11 t'.Heard.length c11)).setBlk (k := 2) 3 rfl (.slice A12 t'.Line.length c12)).setBlk (k := 3) 3 rfl (.slice A13 t'.Log.length c13)).setBlk (k := 4) 3 rfl (.slice A14 t'.Next.length c14))
      have q0 := HSF.out.cell (k := 0) 3 rfl rfl
      have q1 := HSF.out.cell (k := 1) 3 rfl rfl
      have q2 := HSF.out.cell (k := 2) 3 rfl rfl
      have q3 := HSF.out.cell (k := 3) 3 rfl rfl
      have q4 := HSF.out.cell (k := 4) 3 rfl rfl
      rw [HF.out]
      exact bodyPost_ret (v := .tuple #[.agg #[.slice A10 t'.Texts.length c10, .slice A11 t'.Heard.length c11, .slice A12 t'.Line.length c12, .slice A13 t'.Log.length c13, .slice A14 t'.Next.length c14], .bool true]) (by simp [results, Try.results19, go_sem, q0, q1, q2, q3, q4]) rfl (tell_ret2 HSF.out)
end Go.Proofs.Ytaepohocabealaa

/-
  Plain functions: settling a teller. No program in sight. No conditions.
-/
namespace Go.Proofs.Ytaepohocabealaa
namespace Pl
def s2 (k : Int) : TellStep := ⟨2, k, ⟨#[]⟩⟩
def s3 : TellStep := ⟨3, 0, ⟨#[]⟩⟩
def noLine (t : Tell) : Tell := { t with Line := [] }
def settleOne (t : Tell) (k : Int) : Tell := (tstep (tstep (tstep (noLine t) (s2 k)).1 s3).1 s3).1
def settleF : Nat → Tell → Int → Int → Tell × Int
  | 0, t, _, c => (t, c)
  | f + 1, t, k, c => if iAt t.Heard k < (tAt t k).length then settleF f (settleOne t k) k (c + 1) else (t, c)
def settleTo (t : Tell) : Nat → Tell × Int
  | 0 => (t, 0)
  | k + 1 => settleF 21 (settleTo t k).1 k (settleTo t k).2
def HLe (t : Tell) : Prop := ∀ (k : Nat) (a b : Int), t.Heard[k]? = some b → t.Next[k]? = some a → b ≤ a
theorem noLine_wf {t : Tell} (h : TWf t) : TWf (noLine t) := ⟨h.n4, h.heard, h.next, Nat.zero_le _, h.log, h.texts, h.nx, h.hd, fun m hm => by cases hm⟩
theorem settle_open (t : Tell) (k : Nat) (hk : k < t.Texts.length) (hl : iAt t.Heard k < (tAt t k).length) :
    settleOne t k = tback (tlog (noLine t) ⟨k, iAt t.Heard k, (tAt t k).getD (iAt t.Heard k).toNat ByteArray.empty⟩) ⟨k, iAt (tlog (noLine t) ⟨k, iAt t.Heard k, (tAt t k).getD (iAt t.Heard k).toNat ByteArray.empty⟩).Next k, ByteArray.empty⟩ := by
  obtain ⟨x, hx⟩ : ∃ x : Told, x = ⟨k, iAt t.Heard k, (tAt t k).getD (iAt t.Heard k).toNat ByteArray.empty⟩ := ⟨_, rfl⟩
  have e1 : (tstep (noLine t) (s2 k)).1 = { noLine t with Line := [⟨false, x⟩] } := by
    unfold tstep s2
    rw [if_neg (show ¬ (2 : Int) = 1 by omega), if_neg (show ¬ ((⟨#[]⟩ : ByteArray).size ≠ 0 ∨ (k : Int) < 0) by simp [ByteArray.size]), if_pos rfl]
    have hc : ((k : Int) < (noLine t).Texts.length ∧ iAt (noLine t).Heard k ≠ (tAt (noLine t) k).length) := by
      refine ⟨?_, ?_⟩
      · show (k : Int) < (t.Texts.length : Nat); omega
      · show iAt t.Heard k ≠ ((tAt t k).length : Nat); omega
    rw [if_pos hc]
    show tsend (noLine t) _ = _
    unfold tsend
    rw [if_pos (show (noLine t).Line.length < 30 by show (0 : Nat) < 30; omega), hx]
    rfl
  have e2 : (tstep { noLine t with Line := [⟨false, x⟩] } s3).1 = { tlog (noLine t) x with Line := [⟨true, ⟨x.Who, iAt (tlog (noLine t) x).Next x.Who, ByteArray.empty⟩⟩] } := by
    unfold tstep s3
    rw [if_neg (show ¬ (3 : Int) = 1 by omega), if_neg (show ¬ ((⟨#[]⟩ : ByteArray).size ≠ 0 ∨ (0 : Int) < 0) by simp [ByteArray.size]), if_neg (show ¬ (3 : Int) = 2 by omega)]
    rw [if_pos (show (3 : Int) ≤ 3 ∧ (3 : Int) ≤ 5 ∧ (0 : Int) < (([⟨false, x⟩] : List Note).length : Nat) by simp), if_neg (show ¬ (3 : Int) = 5 by omega), if_pos rfl]
    show ttake (noLine t) ⟨false, x⟩ = _
    unfold ttake
    rw [if_neg (by simp)]
    show tsend (tlog (noLine t) x) _ = _
    have hl0 : (tlog (noLine t) x).Line = [] := by unfold tlog; split <;> rfl
    unfold tsend
    rw [if_pos (by rw [hl0]; show (0 : Nat) < 30; omega), hl0]
    rfl
  have e3 : ∀ (y : Tell) (z : Told), y.Line = [] → (tstep { y with Line := [⟨true, z⟩] } s3).1 = tback y z := fun y z hy => by
    unfold tstep s3
    rw [if_neg (show ¬ (3 : Int) = 1 by omega), if_neg (show ¬ ((⟨#[]⟩ : ByteArray).size ≠ 0 ∨ (0 : Int) < 0) by simp [ByteArray.size]), if_neg (show ¬ (3 : Int) = 2 by omega)]
    rw [if_pos (show (3 : Int) ≤ 3 ∧ (3 : Int) ≤ 5 ∧ (0 : Int) < (([⟨true, z⟩] : List Note).length : Nat) by simp), if_neg (show ¬ (3 : Int) = 5 by omega), if_pos rfl]
    show ttake { y with Line := [] } ⟨true, z⟩ = _
    unfold ttake
    rw [if_pos rfl]
    have : ({ y with Line := [] } : Tell) = y := by rw [← hy]
    rw [this]
  unfold settleOne
  rw [e1, e2, e3 _ _ (by unfold tlog; split <;> rfl), hx]
theorem settle_one {t : Tell} {k : Nat} (hw : TWf t) (hh : HLe t) (hk : k < t.Texts.length) (hl : iAt t.Heard k < (tAt t k).length) :
    TWf (settleOne t k) ∧ HLe (settleOne t k) ∧ (settleOne t k).Texts = t.Texts ∧ iAt t.Heard k < iAt (settleOne t k).Heard k := by
  have hkh : k < t.Heard.length := by rw [hw.heard]; exact hk
  have hkn : k < t.Next.length := by rw [hw.next]; exact hk
  have hb := List.getElem?_eq_getElem hkh
  have ha := List.getElem?_eq_getElem hkn
  have hx := List.getElem?_eq_getElem hk
  generalize t.Heard[k] = b at hb
  generalize t.Next[k] = a at ha
  generalize t.Texts[k] = l at hx
  have eb : iAt t.Heard k = b := iAt_of (by simpa using hb)
  have ea : iAt t.Next k = a := iAt_of (by simpa using ha)
  have el : tAt t k = l := tAt_of (by simpa using hx)
  have hba := hh k a b hb ha
  have hbd := hw.hd k b l hb hx
  have han := hw.nx k a l ha hx
  rw [eb, el] at hl
  have hwf : TWf (settleOne t k) := by
    unfold settleOne
    exact (((noLine_wf hw).step _).step _).step _
  refine ⟨hwf, ?_⟩
  have ho := settle_open t k hk (by rw [eb, el]; exact hl)
  rw [ho, eb, el]
  obtain ⟨x, hxx⟩ : ∃ x : Told, x = ⟨k, b, l.getD b.toNat ByteArray.empty⟩ := ⟨_, rfl⟩
  rw [← hxx]
  have key : ∃ n', iAt (tlog (noLine t) x).Next k = n' ∧ b < n' ∧ (tlog (noLine t) x).Heard = t.Heard ∧ (tlog (noLine t) x).Texts = t.Texts ∧ (tlog (noLine t) x).Next = t.Next.set k n' := by
    unfold tlog
    by_cases he : x.No = iAt (noLine t).Next x.Who
    · rw [if_pos he]
      have h1 : iAt (noLine t).Next x.Who = a := by rw [hxx]; exact ea
      have h2 : b = a := by rw [← h1, ← he, hxx]
      refine ⟨a + 1, ?_, by omega, rfl, rfl, ?_⟩
      · show iAt (t.Next.set x.Who.toNat (iAt (noLine t).Next x.Who + 1)) k = a + 1
        rw [h1, hxx]
        apply iAt_of
        show (t.Next.set ((k : Nat) : Int).toNat (a + 1))[((k : Nat) : Int).toNat]? = _
        rw [show ((k : Nat) : Int).toNat = k by omega, List.getElem?_set_self hkn]
      · show t.Next.set x.Who.toNat (iAt (noLine t).Next x.Who + 1) = _
        rw [h1, hxx]
        rfl
    · rw [if_neg he]
      have h1 : iAt (noLine t).Next x.Who = a := by rw [hxx]; exact ea
      have h2 : ¬ b = a := fun h => he (by rw [h1, hxx]; exact h)
      refine ⟨a, ea, by omega, rfl, rfl, ?_⟩
      show t.Next = t.Next.set k a
      apply List.ext_getElem?
      intro j
      by_cases hj : k = j
      · subst hj; rw [List.getElem?_set_self hkn, ha]
      · rw [List.getElem?_set_ne hj]
  obtain ⟨n', k1, k2, k3, k4, k5⟩ := key
  have hH : (tback (tlog (noLine t) x) ⟨k, iAt (tlog (noLine t) x).Next k, ByteArray.empty⟩).Heard = t.Heard.set k n' := by
    unfold tback
    show (tlog (noLine t) x).Heard.set ((k : Nat) : Int).toNat _ = _
    rw [k1, k3]
    dsimp only
    rw [eb, if_pos k2]
    rfl
  refine ⟨fun j c d hd hc => ?_, k4, ?_⟩
  · rw [hH] at hd
    have hc' : (t.Next.set k n')[j]? = some c := by rw [← k5]; exact hc
    rcases set_some hd with ⟨rfl, rfl⟩ | ⟨hne, hd⟩
    · rw [List.getElem?_set_self hkn] at hc'
      injection hc' with hc'
      omega
    · rw [List.getElem?_set_ne hne] at hc'
      exact hh j c d hd hc'
  · rw [hH]
    have : iAt (t.Heard.set k n') k = n' := iAt_of (by rw [show ((k : Nat) : Int).toNat = k by omega, List.getElem?_set_self hkh])
    rw [this]
    exact k2
theorem good_hle {t : Tell} (h : goodTell t = true) : HLe t := by
  unfold goodTell at h
  simp only [Bool.and_eq_true, decide_eq_true_eq, List.all_eq_true] at h
  obtain ⟨⟨⟨h1, h2⟩, h3⟩, h4⟩ := h
  have hp := good_pre h1
  intro k a b hb ha
  have hk : k < t.Texts.length := by have := (List.getElem?_eq_some_iff.1 hb).1; omega
  have := h2 k (List.mem_range.2 hk)
  rw [textOk_eq (List.getElem?_eq_getElem hk) ha hb] at this
  simp only [Bool.and_eq_true, isIn_iff'] at this
  exact this.2.2
/-- what holds behind f turns -/
theorem settleF_ok {t0 : Tell} {k : Nat} : ∀ (f : Nat) (t : Tell) (c : Int), TWf t → HLe t → t.Texts = t0.Texts → k < t0.Texts.length → 0 ≤ c → TWf (settleF f t k c).1 ∧ HLe (settleF f t k c).1 ∧ (settleF f t k c).1.Texts = t0.Texts ∧ 0 ≤ (settleF f t k c).2 ∧ (settleF f t k c).2 ≤ c + f
  | 0, t, c, h1, h2, h3, _, hc => ⟨h1, h2, h3, hc, by show c ≤ c + (0 : Nat); omega⟩
  | f + 1, t, c, h1, h2, h3, hk, hc => by
    unfold settleF
    by_cases hlt : iAt t.Heard (k : Int) < ((tAt t (k : Int)).length : Nat)
    · rw [if_pos hlt]
      obtain ⟨g1, g2, g3, _⟩ := settle_one h1 h2 (by rw [h3]; exact hk) hlt
      have := settleF_ok (t0 := t0) (k := k) f (settleOne t k) (c + 1) g1 g2 (g3.trans h3) hk (by omega)
      refine ⟨this.1, this.2.1, this.2.2.1, this.2.2.2.1, by have := this.2.2.2.2; push_cast; omega⟩
    · rw [if_neg hlt]
      exact ⟨h1, h2, h3, hc, by show c ≤ c + ((f + 1 : Nat) : Int); omega⟩
theorem settleTo_ok {t : Tell} (hw : TWf t) (hh : HLe t) : ∀ k, k ≤ t.Texts.length → TWf (settleTo t k).1 ∧ HLe (settleTo t k).1 ∧ (settleTo t k).1.Texts = t.Texts ∧ 0 ≤ (settleTo t k).2 ∧ (settleTo t k).2 ≤ 21 * k
  | 0, _ => ⟨hw, hh, rfl, Int.le_refl _, Int.le_refl _⟩
  | k + 1, hk => by
    have ih := settleTo_ok hw hh k (by omega)
    have := settleF_ok (t0 := t) (k := k) 21 (settleTo t k).1 (settleTo t k).2 ih.1 ih.2.1 ih.2.2.1 (by omega) ih.2.2.2.1
    refine ⟨this.1, this.2.1, this.2.2.1, this.2.2.2.1, ?_⟩
    have h5 := this.2.2.2.2
    have h6 := ih.2.2.2.2
    show (settleF 21 _ _ _).2 ≤ _
    push_cast at h5 h6 ⊢
    omega
end Pl
end Go.Proofs.Ytaepohocabealaa

/-
  Contracts: SettleTell, the program's (chapter 10). No conditions.
-/
namespace Go.Proofs.Ytaepohocabealaa
open Go.RowKit
attribute [local go_sem] und_cell cha_cell World.cell?_alloc_some
def Pl.settleTell (t : Tell) : Tell × Int × Bool := if Pl.goodTell t = true then ((Pl.settleTo t t.Texts.length).1, (Pl.settleTo t t.Texts.length).2, true) else (Pl.zTe, 0, false)
def SettleAns (r : Tell × Int × Bool) (w : World) (e : Ending) (w' : World) : Prop :=
  ∃ cs fp0, e = .returned (.tuple #[.agg cs.toArray, .int .i64 r.2.1, .bool r.2.2]) ∧ Mm.SepF [] w w' [Mm.tow rTell r.1 cs fp0]
theorem settleNo {w w' : World} (h : Below w.heap.size w w') : SettleAns (Pl.zTe, 0, false) w (.returned (.tuple #[.agg zTell.toArray, .int .i64 0, .bool false])) w' :=
  ⟨zTell, [], rfl, ⟨Mm.Chg.of_below h, by simp [Mm.tow], by simp [Mm.tow], List.forall_mem_cons.2 ⟨zTe_own, fun u hu => by cases hu⟩⟩⟩
/-- the line forgotten -/
theorem noLine_shut {F : List Nat} {w0 wr : World} {g : Nat} {x : Tell} {A0 A1 A2 A3 A4 : Option Addr} {n0 c0 n1 c1 n2 c2 n3 c3 n4 c4 : Nat} {f0 f1 f2 f3 f4 : List Nat} {ts : List Mm.Thing} (h : Mm.SepF F w0 wr (Mm.tblk g 31 [.slice A0 n0 c0, .slice A1 n1 c1, .slice A2 n2 c2, .slice A3 n3 c3, .slice A4 n4 c4] :: Mm.tsl strs 40 x.Texts (.slice A0 n0 c0) f0 :: Mm.tsl Mm.int 3 x.Heard (.slice A1 n1 c1) f1 :: Mm.tsl rNote 94 x.Line (.slice A2 n2 c2) f2 :: Mm.tsl rTold 52 x.Log (.slice A3 n3 c3) f3 :: Mm.tsl Mm.int 3 x.Next (.slice A4 n4 c4) f4 :: ts)) :
    ∃ fp, Mm.SepF F w0 (wr.setCell ⟨g, 2, none⟩ (.slice none 0 0)) (Mm.tptr rTell 31 g (Pl.noLine x) fp :: ts) := by
  have h1 := h.setBlk (k := 2) 0 rfl (.slice none 0 0)
  have h2 := h1.upd (i := 3) (t' := Mm.tsl rNote 94 [] (.slice none 0 0) []) rfl (Mm.Chg.refl _ _) Mm.SlOwn.nil List.nodup_nil (fun b hb => by cases hb)
  exact ⟨_, shut_Tell (x := Pl.noLine x) h2⟩
theorem Pl.settle_len {x : Tell} (hw : Pl.TWf x) {k : Nat} (hk : k < x.Texts.length) : ((Pl.tAt x k).length : Int) - Pl.iAt x.Heard k ≤ 21 := by
  have hx := List.getElem?_eq_getElem hk
  have hy := List.getElem?_eq_getElem (show k < x.Heard.length by rw [hw.heard]; exact hk)
  have h3 := hw.texts k _ hx
  have h4 := hw.hd k _ _ hy hx
  rw [Pl.tAt_of (t := x) (k := (k : Int)) (l := x.Texts[k]) (by simp), Pl.iAt_of (l := x.Heard) (k := (k : Int)) (a := x.Heard[k]'(by rw [hw.heard]; exact hk)) (by simp)]
  omega
set_option maxRecDepth 100000 in
set_option maxHeartbeats 4000000 in
theorem implSettleTell_c (t : Tell) (cs : List Value) (w : World) (B : Nat) (ht : rTell.at_ w B t cs) (hB : B ≤ w.heap.size) :
    Calls Try.prog 13 #[.agg cs.toArray] w (SettleAns (Pl.settleTell t) w) := by
  obtain ⟨A0, n0, c0, A1, n1, c1, A2, n2, c2, A3, n3, c3, A4, n4, c4, rfl, -⟩ := rTell_at ht
  have HRT := Lib.hid ht
  clear ht
  go_enter Try.func13, Try.ntmps13
  go_upto_region 1 with fail
  obtain ⟨ga, hga⟩ : ∃ ga, w.heap.size = ga := ⟨_, rfl⟩
  obtain ⟨gr, hgr⟩ : ∃ gr, ga + 1 = gr := ⟨_, rfl⟩
  obtain ⟨W0, hW0⟩ : ∃ W0, (w.alloc (.cells #[.slice A0 n0 c0, .slice A1 n1 c1, .slice A2 n2 c2, .slice A3 n3 c3, .slice A4 n4 c4] 31)).alloc (.cells #[.slice none 0 0, .slice none 0 0, .slice none 0 0, .slice none 0 0, .slice none 0 0] 31) = W0 := ⟨_, rfl⟩
  have HS := Lib.hid ((((Mm.SepF.start w).alloc' hga 31 [.slice A0 n0 c0, .slice A1 n1 c1, .slice A2 n2 c2, .slice A3 n3 c3, .slice A4 n4 c4]).alloc' (g := gr) (by rw [Mm.sz1, hga, hgr]) 31 zTell).atW hW0)
  rw [hW0, hga, hgr]
  have HGA := Lib.hid hga
  clear hW0 hga hgr
  have HRT0 := Lib.hid (rTell.keep HRT.out (w' := W0) fun b hb => HS.out.bel0.block b (by omega))
  have HBW := Lib.hid (Nat.le_trans hB HS.out.chg.size)
  have HSR := HS
  have b0 := HSR.out.cell (k := 0) 1 rfl rfl
  have b1 := HSR.out.cell (k := 1) 1 rfl rfl
  have b2 := HSR.out.cell (k := 2) 1 rfl rfl
  have b3 := HSR.out.cell (k := 3) 1 rfl rfl
  have b4 := HSR.out.cell (k := 4) 1 rfl rfl
  have r0 := HSR.out.cell (k := 0) 0 rfl rfl
  have r1 := HSR.out.cell (k := 1) 0 rfl rfl
  have r2 := HSR.out.cell (k := 2) 0 rfl rfl
  have r3 := HSR.out.cell (k := 3) 0 rfl rfl
  have r4 := HSR.out.cell (k := 4) 0 rfl rfl
  have z0 := HSR.out.frz (k := 0) 0 rfl
  have z1 := HSR.out.frz (k := 1) 0 rfl
  have z2 := HSR.out.frz (k := 2) 0 rfl
  have z3 := HSR.out.frz (k := 3) 0 rfl
  have z4 := HSR.out.frz (k := 4) 0 rfl
  obtain ⟨gd, hgd⟩ : ∃ gd, Pl.goodTell t = gd := ⟨_, rfl⟩
  have HGD := Lib.hid hgd
  clear hgd
  have CI := isTell_c t _ W0 B HRT0.out HBW.out
  rw [HGD.out] at CI
  cases gd with
  | false =>
    have HF : Hid (Pl.settleTell t = (Pl.zTe, 0, false)) := if_neg (fun h => by rw [HGD.out] at h; cases h)
    go_wp2_with (go_at_call 53; refine CI.mono ?_; rintro e w1 ⟨rfl, hb1⟩; (have HSR := Lib.hid (HS.out.step hb1)); (clear b0 b1 b2 b3 b4 r0 r1 r2 r3 r4 z0 z1 z2 z3 z4); (have r0 := HSR.out.cell (k := 0) 0 rfl rfl); (have r1 := HSR.out.cell (k := 1) 0 rfl rfl); (have r2 := HSR.out.cell (k := 2) 0 rfl rfl); (have r3 := HSR.out.cell (k := 3) 0 rfl rfl); (have r4 := HSR.out.cell (k := 4) 0 rfl rfl); (have z0 := HSR.out.frz (k := 0) 0 rfl); (have z1 := HSR.out.frz (k := 1) 0 rfl); (have z2 := HSR.out.frz (k := 2) 0 rfl); (have z3 := HSR.out.frz (k := 3) 0 rfl); (have z4 := HSR.out.frz (k := 4) 0 rfl))
    rw [HF.out]
    have HSF := Lib.hid (((((HSR.out.setBlk (k := 0) 0 rfl (.slice none 0 0)).setBlk (k := 1) 0 rfl (.slice none 0 0)).setBlk (k := 2) 0 rfl (.slice none 0 0)).setBlk (k := 3) 0 rfl (.slice none 0 0)).setBlk (k := 4) 0 rfl (.slice none 0 0))
    have q0 := HSF.out.cell (k := 0) 0 rfl rfl
    have q1 := HSF.out.cell (k := 1) 0 rfl rfl
    have q2 := HSF.out.cell (k := 2) 0 rfl rfl
    have q3 := HSF.out.cell (k := 3) 0 rfl rfl
    have q4 := HSF.out.cell (k := 4) 0 rfl rfl
    exact bodyPost_ret (v := .tuple #[.agg zTell.toArray, .int .i64 0, .bool false]) (by simp [results, Try.results13, go_sem, zTell, q0, q1, q2, q3, q4]) rfl (settleNo HSF.out.bel0)
  | true =>
    have HF : Hid (Pl.settleTell t = ((Pl.settleTo t t.Texts.length).1, (Pl.settleTo t t.Texts.length).2, true)) := if_pos HGD.out
    have HWF := Lib.hid (Pl.good_wf HGD.out)
    have HLE := Lib.hid (Pl.good_hle HGD.out)
    have hn1 := Pl.good_n HGD.out
    have hn4 := HWF.out.n4
    go_wp2_with (first
      | (go_at_call 53; refine CI.mono ?_; rintro e w1 ⟨rfl, hb1⟩; (have HS1 := Lib.hid (HS.out.step hb1)); (have HRT1 := Lib.hid (rTell.keep HRT0.out (w' := w1) fun b hb => hb1.block b (Nat.lt_of_lt_of_le hb HBW.out))); (have HBW1 := Lib.hid (Nat.le_trans HBW.out hb1.size)); (clear b0 b1 b2 b3 b4 r0 r1 r2 r3 r4 z0 z1 z2 z3 z4); clear hb1; (have b0 := HS1.out.cell (k := 0) 1 rfl rfl); (have b1 := HS1.out.cell (k := 1) 1 rfl rfl); (have b2 := HS1.out.cell (k := 2) 1 rfl rfl); (have b3 := HS1.out.cell (k := 3) 1 rfl rfl); (have b4 := HS1.out.cell (k := 4) 1 rfl rfl))
      | (go_at_call 54; refine (cloneTell_c t _ w1 B HRT1.out HBW1.out HWF.out.sz hn1).mono ?_; rintro e w2 ⟨cs5, fp5, rfl, ho, hnd, hnew, hb2⟩; obtain ⟨a0, k0, a1, k1, a2, k2, a3, k3, a4, k4, rfl⟩ := own_form ho; (have HS2 := Lib.hid (HS1.out.add hb2 (t := Mm.tow rTell t _ _) ho hnd hnew)); clear ho hnd hnew hb2 b0 b1 b2 b3 b4; (have HS2b := Lib.hid (HS2.out.alloc' rfl 31 [.slice a0 t.Texts.length k0, .slice a1 t.Heard.length k1, .slice a2 t.Line.length k2, .slice a3 t.Log.length k3, .slice a4 t.Next.length k4])); (have s0 := HS2b.out.cell (k := 0) 0 rfl rfl)))
    obtain ⟨g5, hg5⟩ : ∃ g5, w2.heap.size = g5 := ⟨_, rfl⟩
    rw [hg5] at HS2b ⊢
    clear hg5 s0 HS2 HRT1 HBW1
    obtain ⟨W2, hW2⟩ : ∃ W2, w2.alloc (.cells #[.slice a0 t.Texts.length k0, .slice a1 t.Heard.length k1, .slice a2 t.Line.length k2, .slice a3 t.Log.length k3, .slice a4 t.Next.length k4] 31) = W2 := ⟨_, rfl⟩
    have HS3 := Lib.hid (((HS2b.out.toPtr).sel [0, 1] (by decide) rfl).atW hW2)
    rw [hW2]
    clear HS2b hW2
    obtain ⟨n, hn⟩ : ∃ n, t.Texts.length = n := ⟨_, rfl⟩
    rw [hn] at HF hn1 hn4 ⊢
    have HN := Lib.hid hn
    clear hn
    go_loopg [6, 17] n (fun g cnt i wr => ∃ (k : Nat) (fp : List Nat) (c : Int), n - k ≤ g ∧ k ≤ n ∧ cnt = .int .i64 c ∧ i = .int .i64 k ∧ Hid (c = (Pl.settleTo t k).2 ∧ Mm.SepF [] w wr [Mm.tptr rTell 31 g5 (Pl.settleTo t k).1 fp, Mm.tblk gr 31 zTell]))
    case atStart => exact ⟨0, _, 0, Nat.le_refl _, Nat.zero_le _, rfl, rfl, Lib.hid ⟨rfl, by rw [show Pl.settleTo t 0 = (t, 0) from rfl]; exact HS3.out⟩⟩
    case round =>
      clear HS3
      obtain ⟨k, fp, c, hgk, hk, rfl, rfl, HS'⟩ := hrel
      obtain ⟨Wo, rfl⟩ : ∃ Wo : World, Wo = wr := ⟨_, rfl⟩
      have HC := Lib.hid HS'.out.1
      have HSk := Lib.hid HS'.out.2
      clear HS'
      have HOK := Lib.hid (Pl.settleTo_ok HWF.out HLE.out k (by rw [HN.out]; exact hk))
      by_cases hlt : k < n
      · have f1 : ((k : Nat) : Int) < ((n : Nat) : Int) := by omega
        have f2 : (0 : Int) ≤ (k : Nat) := by omega
        have f3 : ((k : Nat) : Int).toNat = k := by omega
        go_wp2
        go_loopg [6] 21 (fun g2 cnt wr => ∃ (f : Nat) (x : Tell) (fp : List Nat) (c : Int), f ≤ g2 ∧ cnt = .int .i64 c ∧ 0 ≤ c ∧ c + f ≤ 1000 ∧ Hid (Pl.settleF f x k c = Pl.settleTo t (k + 1) ∧ ((Pl.tAt x k).length : Int) - Pl.iAt x.Heard k ≤ f ∧ Pl.TWf x ∧ Pl.HLe x ∧ x.Texts = t.Texts ∧ Mm.SepF [] w wr [Mm.tptr rTell 31 g5 x fp, Mm.tblk gr 31 zTell]))
        case atStart => exact ⟨21, _, fp, c, Nat.le_refl _, rfl, by rw [HC.out]; exact HOK.out.2.2.2.1, by have := HOK.out.2.2.2.2; rw [HC.out]; omega, Lib.hid ⟨by rw [HC.out]; rfl, Pl.settle_len HOK.out.1 (by rw [HOK.out.2.2.1, HN.out]; exact hlt), HOK.out.1, HOK.out.2.1, HOK.out.2.2.1, HSk.out⟩⟩
        case round =>
          clear HSk HC HOK
          obtain ⟨f, x, fp, c, hfg, rfl, hc0, hc1, HR⟩ := hrel
          obtain ⟨Wi, rfl⟩ : ∃ Wi : World, Wi = wr := ⟨_, rfl⟩
          have HXW := Lib.hid HR.out.2.2.1
          have HXL := Lib.hid HR.out.2.2.2.1
          have HXT := Lib.hid HR.out.2.2.2.2.1
          have HFE := Lib.hid HR.out.1
          have hfl := HR.out.2.1
          obtain ⟨A0, m0, c0, A1, m1, c1, A2, m2, c2, A3, m3, c3, A4, m4, c4, f0, f1, f2, f3, f4, rfl, hs⟩ := open_Tell HR.out.2.2.2.2.2
          have HS := Lib.hid hs
          clear hs HR
          have hm0 : m0 = n := by obtain ⟨A', n', c', hv, h1, _⟩ := (HS.out.sl 1 rfl).form; injection hv with _ h2 _; rw [HXT.out, HN.out] at h1; omega
          have hm1 : m1 = n := by obtain ⟨A', n', c', hv, h1, _⟩ := (HS.out.sl 2 rfl).form; injection hv with _ h2 _; have := HXW.out.heard; rw [HXT.out, HN.out] at this; omega
          obtain rfl : n = m0 := hm0.symm
          obtain rfl : n = m1 := hm1.symm
          obtain ⟨g0, rfl, -, -⟩ := Mm.sl_addr (HS.out.sl 1 rfl) (by rw [HXT.out, HN.out]; omega)
          obtain ⟨g1, rfl, -, -⟩ := Mm.sl_addr (HS.out.sl 2 rfl) (by rw [HXW.out.heard, HXT.out, HN.out]; omega)
          obtain ⟨ys, hy⟩ : ∃ ys, x.Texts[k]? = some ys := ⟨_, List.getElem?_eq_getElem (by rw [HXT.out, HN.out]; exact hlt)⟩
          obtain ⟨a, ha⟩ : ∃ a, x.Heard[k]? = some a := ⟨_, List.getElem?_eq_getElem (by rw [HXW.out.heard, HXT.out, HN.out]; exact hlt)⟩
          have hyt := Pl.tAt_of (t := x) (k := (k : Int)) (l := ys) (by simpa using hy)
          have hai := Pl.iAt_of (l := x.Heard) (k := (k : Int)) (a := a) (by simpa using ha)
          obtain ⟨A, m, d, fx, e0, rfl, -⟩ := HS.out.openIn 1 rfl hy
          have e1 := int_ocell (HS.out.sl 2 rfl) (HS.out.ndat (i := 2) rfl) ha
          have hys := HXW.out.texts k ys hy
          have hab := HXW.out.hd k a ys ha hy
          have HYT := Lib.hid hyt
          have HAI := Lib.hid hai
          rw [hyt, hai] at hfl
          clear hy ha hyt hai
          have b0 := HS.out.cell (k := 0) 0 rfl rfl
          have b1 := HS.out.cell (k := 1) 0 rfl rfl
          have hcap : n ≤ c0 ∧ c0 ≤ maxLen := by obtain ⟨A', n', c', hv, h1, h2, h3, _⟩ := (HS.out.sl 1 rfl).form; injection hv with _ h4 h5; omega
          have hcap1 : n ≤ c1 ∧ c1 ≤ maxLen := by obtain ⟨A', n', c', hv, h1, h2, h3, _⟩ := (HS.out.sl 2 rfl).form; injection hv with _ h4 h5; omega
          unfold maxLen at hcap hcap1
          by_cases hlen : a < (ys.length : Nat)
          · obtain ⟨f, rfl⟩ : ∃ f', f = f' + 1 := ⟨f - 1, by omega⟩
            have HSO := Lib.hid (Pl.settle_one HXW.out HXL.out (k := k) (by rw [HXT.out, HN.out]; exact hlt) (by rw [HYT.out, HAI.out]; exact hlen))
            have HF1 : Hid (Pl.settleF f (Pl.settleOne x k) k (c + 1) = Pl.settleTo t (k + 1)) := Lib.hid (by
              rw [← HFE.out]
              show _ = if Pl.iAt x.Heard k < (Pl.tAt x k).length then _ else _
              rw [if_pos (by rw [HYT.out, HAI.out]; exact hlen)])
            have u1 : decide (a < ((ys.length : Nat) : Int)) = true := by simp [hlen]
            have hwc : IntKind.i64.wrap (c + 1) = c + 1 := IntWalk.i64_in _ (by omega)
            go_wp2
            refine wp_region_und (by kernel_rfl) (by kernel_rfl) ?_
            repeat (go_big_quiet_step ((first | fail)))
            refine wpQuiet_nil ?_
            intro X hX
            have HS1 := Lib.hid (HS.out.step hX)
            clear b0 b1 e0 e1 hX
            have b2 := HS1.out.cell (k := 2) 0 rfl rfl
            have z2 := HS1.out.frz (k := 2) 0 rfl
            obtain ⟨fpn, hsn⟩ := noLine_shut HS1.out
            have HSN := Lib.hid hsn
            clear hsn
            go_upto_region 10 with fail
            obtain ⟨Wn, hWn⟩ : ∃ Wn, X.setCell ⟨g5, 2, none⟩ (.slice none 0 0) = Wn := ⟨_, rfl⟩
            rw [hWn] at HSN ⊢
            clear hWn b2 z2
            have HW0 := Lib.hid (Pl.noLine_wf HXW.out)
            have C1 := step_c (Pl.noLine x) ⟨2, k, ⟨#[]⟩⟩ g5 fpn Wn (HSN.out.at_ 0 rfl) (HSN.out.ndat (i := 0) rfl) ⟨by show Mm.I64 ((k : Nat) : Int); unfold Mm.I64; omega, Nat.zero_le _⟩ HW0.out
            have HW1 := Lib.hid (HW0.out.step ⟨2, k, ⟨#[]⟩⟩)
            have HW2 := Lib.hid (HW1.out.step ⟨3, 0, ⟨#[]⟩⟩)
            have hi0 : Mm.I64 0 := by unfold Mm.I64; omega
            have HI0 := Lib.hid hi0
            clear hi0
            go_wp2_with fail
            refine C1.mono ?_
            rintro e w5 ⟨rfl, fp5, hL⟩
            have HSA := Lib.hid (HSN.out.call 0 rfl hL)
            clear hL C1
            have C2 := step_c (Pl.tstep (Pl.noLine x) ⟨2, k, ⟨#[]⟩⟩).1 ⟨3, 0, ⟨#[]⟩⟩ g5 fp5 w5 (HSA.out.at_ 0 rfl) (HSA.out.ndat (i := 0) rfl) ⟨HI0.out, Nat.zero_le _⟩ HW1.out
            go_wp2_with fail
            refine C2.mono ?_
            rintro e w6 ⟨rfl, fp6, hL⟩
            have HSB := Lib.hid (HSA.out.call 0 rfl hL)
            clear hL C2 HSA
            have C3 := step_c (Pl.tstep (Pl.tstep (Pl.noLine x) ⟨2, k, ⟨#[]⟩⟩).1 ⟨3, 0, ⟨#[]⟩⟩).1 ⟨3, 0, ⟨#[]⟩⟩ g5 fp6 w6 (HSB.out.at_ 0 rfl) (HSB.out.ndat (i := 0) rfl) ⟨HI0.out, Nat.zero_le _⟩ HW2.out
            go_wp2_with fail
            refine C3.mono ?_
            rintro e w7 ⟨rfl, fp7, hL⟩
            have HSC : Hid (Mm.SepF [] w w7 [Mm.tptr rTell 31 g5 (Pl.settleOne x k) fp7, Mm.tblk gr 31 zTell]) := Lib.hid (HSB.out.call 0 rfl hL)
            clear hL C3 HSB
            go_wp2
            go_roundg f
            case measure => omega
            case rel => exact ⟨f, _, fp7, c + 1, Nat.le_refl _, rfl, by omega, by omega, Lib.hid ⟨HF1.out, by
              have h1 := HSO.out.2.2.2
              have h2 : Pl.tAt (Pl.settleOne x k) (k : Int) = Pl.tAt x k := by unfold Pl.tAt; rw [HSO.out.2.2.1]
              rw [h2, HYT.out]
              rw [HAI.out] at h1
              omega, HSO.out.1, HSO.out.2.1, HSO.out.2.2.1.trans HXT.out, HSC.out⟩⟩
          · have u1 : decide (a < ((ys.length : Nat) : Int)) = false := by simp; omega
            have HF1 : Hid (Pl.settleTo t (k + 1) = (x, c)) := Lib.hid (by
              rw [← HFE.out]
              cases f with
              | zero => rfl
              | succ f =>
                show (if Pl.iAt x.Heard k < (Pl.tAt x k).length then _ else _) = _
                rw [if_neg (by rw [HYT.out, HAI.out]; exact hlen)])
            go_wp2
            refine wp_region_und (by kernel_rfl) (by kernel_rfl) ?_
            repeat (go_big_quiet_step ((first | fail)))
            refine wpQuiet_nil ?_
            intro X hX
            have HS1 := Lib.hid (shut_Tell (HS.out.step hX))
            clear b0 b1 e0 e1 hX
            go_wp2
            go_roundg (n - (k + 1))
            case measure => omega
            case rel => exact ⟨k + 1, _, c, Nat.le_refl _, by omega, rfl, by go_num, Lib.hid ⟨by rw [HF1.out], by rw [HF1.out]; exact HS1.out⟩⟩
      · obtain rfl : n = k := by omega
        have f1 : ¬ ((n : Nat) : Int) < ((n : Nat) : Int) := by omega
        obtain ⟨A10, n10, c10, A11, n11, c11, A12, n12, c12, A13, n13, c13, A14, n14, c14, f10, f11, f12, f13, f14, rfl, hs9⟩ := open_Tell HSk.out
        have HSR := Lib.hid hs9
        clear hs9
        have b0 := HSR.out.cell (k := 0) 0 rfl rfl
        have b1 := HSR.out.cell (k := 1) 0 rfl rfl
        have b2 := HSR.out.cell (k := 2) 0 rfl rfl
        have b3 := HSR.out.cell (k := 3) 0 rfl rfl
        have b4 := HSR.out.cell (k := 4) 0 rfl rfl
        have r0 := HSR.out.cell (k := 0) 6 rfl rfl
        have r1 := HSR.out.cell (k := 1) 6 rfl rfl
        have r2 := HSR.out.cell (k := 2) 6 rfl rfl
        have r3 := HSR.out.cell (k := 3) 6 rfl rfl
        have r4 := HSR.out.cell (k := 4) 6 rfl rfl
        have z0 := HSR.out.frz (k := 0) 6 rfl
        have z1 := HSR.out.frz (k := 1) 6 rfl
        have z2 := HSR.out.frz (k := 2) 6 rfl
        have z3 := HSR.out.frz (k := 3) 6 rfl
        have z4 := HSR.out.frz (k := 4) 6 rfl
        go_wp2
        have HSF := Lib.hid (((((HSR.out.setBlk (k := 0) 6 rfl (.slice A10 n10 c10)).setBlk (k := 1) 6 rfl (.slice A11 n11 c11)).setBlk (k := 2) 6 rfl (.slice A12 n12 c12)).setBlk (k := 3) 6 rfl (.slice A13 n13 c13)).setBlk (k := 4) 6 rfl (.slice A14 n14 c14))
        have q0 := HSF.out.cell (k := 0) 6 rfl rfl
        have q1 := HSF.out.cell (k := 1) 6 rfl rfl
        have q2 := HSF.out.cell (k := 2) 6 rfl rfl
        have q3 := HSF.out.cell (k := 3) 6 rfl rfl
        have q4 := HSF.out.cell (k := 4) 6 rfl rfl
        rw [HF.out, ← HC.out]
        exact bodyPost_ret (v := .tuple #[.agg #[.slice A10 n10 c10, .slice A11 n11 c11, .slice A12 n12 c12, .slice A13 n13 c13, .slice A14 n14 c14], .int .i64 c, .bool true]) (by simp [results, Try.results13, go_sem, q0, q1, q2, q3, q4]) rfl ⟨_, _, rfl, shutv_Tell (x := (Pl.settleTo t n).1) (HSF.out.sel [1, 2, 3, 4, 5] (by decide) rfl)⟩
end Go.Proofs.Ytaepohocabealaa

/-
  Contracts: SettleTell, the reference's (chapter 10). No conditions.
-/
namespace Go.Proofs.Ytaepohocabealaa
open Go.RowKit
attribute [local go_sem] und_cell cha_cell World.cell?_alloc_some
/-- the line forgotten, by value -/
theorem noLine_shutv {F : List Nat} {w0 wr : World} {g : Nat} {x : Tell} {A0 A1 A2 A3 A4 : Option Addr} {c0 c1 c2 c3 c4 : Nat} {fp : List Nat} {ts : List Mm.Thing} (h : Mm.SepF F w0 wr (Mm.tow rTell x [.slice A0 x.Texts.length c0, .slice A1 x.Heard.length c1, .slice A2 x.Line.length c2, .slice A3 x.Log.length c3, .slice A4 x.Next.length c4] fp :: Mm.tblk g 31 [.slice A0 x.Texts.length c0, .slice A1 x.Heard.length c1, .slice A2 x.Line.length c2, .slice A3 x.Log.length c3, .slice A4 x.Next.length c4] :: ts)) :
    ∃ fp', Mm.SepF F w0 (wr.setCell ⟨g, 2, none⟩ (.slice none 0 0)) (Mm.tow rTell (Pl.noLine x) [.slice A0 x.Texts.length c0, .slice A1 x.Heard.length c1, .slice none 0 0, .slice A3 x.Log.length c3, .slice A4 x.Next.length c4] fp' :: Mm.tblk g 31 [.slice A0 x.Texts.length c0, .slice A1 x.Heard.length c1, .slice none 0 0, .slice A3 x.Log.length c3, .slice A4 x.Next.length c4] :: ts) := by
  have h1 := h.setBlk (k := 2) 1 rfl (.slice none 0 0)
  obtain ⟨B0, d0, B1, d1, B2, d2, B3, d3, B4, d4, f0, f1, f2, f3, f4, he, rfl, h2⟩ := openv_Tell h1
  injection he with e0 he
  injection he with e1 he
  injection he with e2 he
  injection he with e3 he
  injection he with e4 he
  injection e0 with e0 _ g0
  injection e1 with e1 _ g1
  injection e2 with e2 _ g2
  injection e3 with e3 _ g3
  injection e4 with e4 _ g4
  subst e0 g0 e1 g1 e2 g2 e3 g3 e4 g4
  have h3 := h2.upd (i := 2) (t' := Mm.tsl rNote 94 [] (.slice none 0 0) []) rfl (Mm.Chg.refl _ _) Mm.SlOwn.nil List.nodup_nil (fun b hb => by cases hb)
  exact ⟨_, shutv_Tell (x := Pl.noLine x) h3⟩
set_option maxRecDepth 100000 in
set_option maxHeartbeats 4000000 in
theorem specSettleTell_c (t : Tell) (cs : List Value) (w : World) (B : Nat) (ht : rTell.at_ w B t cs) (hB : B ≤ w.heap.size) :
    Calls Try.prog 22 #[.agg cs.toArray] w (SettleAns (Pl.settleTell t) w) := by
  obtain ⟨A0, n0, c0, A1, n1, c1, A2, n2, c2, A3, n3, c3, A4, n4, c4, rfl, -⟩ := rTell_at ht
  have HRT := Lib.hid ht
  clear ht
  go_enter Try.func22, Try.ntmps22
  go_upto_region 1 with fail
  obtain ⟨ga, hga⟩ : ∃ ga, w.heap.size = ga := ⟨_, rfl⟩
  obtain ⟨gr, hgr⟩ : ∃ gr, ga + 1 = gr := ⟨_, rfl⟩
  obtain ⟨W0, hW0⟩ : ∃ W0, (w.alloc (.cells #[.slice A0 n0 c0, .slice A1 n1 c1, .slice A2 n2 c2, .slice A3 n3 c3, .slice A4 n4 c4] 31)).alloc (.cells #[.slice none 0 0, .slice none 0 0, .slice none 0 0, .slice none 0 0, .slice none 0 0] 31) = W0 := ⟨_, rfl⟩
  have HS := Lib.hid ((((Mm.SepF.start w).alloc' hga 31 [.slice A0 n0 c0, .slice A1 n1 c1, .slice A2 n2 c2, .slice A3 n3 c3, .slice A4 n4 c4]).alloc' (g := gr) (by rw [Mm.sz1, hga, hgr]) 31 zTell).atW hW0)
  rw [hW0, hga, hgr]
  have HGA := Lib.hid hga
  clear hW0 hga hgr
  have HRT0 := Lib.hid (rTell.keep HRT.out (w' := W0) fun b hb => HS.out.bel0.block b (by omega))
  have HBW := Lib.hid (Nat.le_trans hB HS.out.chg.size)
  have HSR := HS
  have b0 := HSR.out.cell (k := 0) 1 rfl rfl
  have b1 := HSR.out.cell (k := 1) 1 rfl rfl
  have b2 := HSR.out.cell (k := 2) 1 rfl rfl
  have b3 := HSR.out.cell (k := 3) 1 rfl rfl
  have b4 := HSR.out.cell (k := 4) 1 rfl rfl
  have r0 := HSR.out.cell (k := 0) 0 rfl rfl
  have r1 := HSR.out.cell (k := 1) 0 rfl rfl
  have r2 := HSR.out.cell (k := 2) 0 rfl rfl
  have r3 := HSR.out.cell (k := 3) 0 rfl rfl
  have r4 := HSR.out.cell (k := 4) 0 rfl rfl
  have z0 := HSR.out.frz (k := 0) 0 rfl
  have z1 := HSR.out.frz (k := 1) 0 rfl
  have z2 := HSR.out.frz (k := 2) 0 rfl
  have z3 := HSR.out.frz (k := 3) 0 rfl
  have z4 := HSR.out.frz (k := 4) 0 rfl
  obtain ⟨gd, hgd⟩ : ∃ gd, Pl.goodTell t = gd := ⟨_, rfl⟩
  have HGD := Lib.hid hgd
  clear hgd
  have CI := GoodTell_c t _ W0 B HRT0.out HBW.out
  rw [HGD.out] at CI
  cases gd with
  | false =>
    have HF : Hid (Pl.settleTell t = (Pl.zTe, 0, false)) := if_neg (fun h => by rw [HGD.out] at h; cases h)
    go_wp2_with (go_at_call 20; refine CI.mono ?_; rintro e w1 ⟨rfl, hb1⟩; (have HSR := Lib.hid (HS.out.step hb1)); (clear b0 b1 b2 b3 b4 r0 r1 r2 r3 r4 z0 z1 z2 z3 z4); (have r0 := HSR.out.cell (k := 0) 0 rfl rfl); (have r1 := HSR.out.cell (k := 1) 0 rfl rfl); (have r2 := HSR.out.cell (k := 2) 0 rfl rfl); (have r3 := HSR.out.cell (k := 3) 0 rfl rfl); (have r4 := HSR.out.cell (k := 4) 0 rfl rfl); (have z0 := HSR.out.frz (k := 0) 0 rfl); (have z1 := HSR.out.frz (k := 1) 0 rfl); (have z2 := HSR.out.frz (k := 2) 0 rfl); (have z3 := HSR.out.frz (k := 3) 0 rfl); (have z4 := HSR.out.frz (k := 4) 0 rfl))
    rw [HF.out]
    have HSF := Lib.hid (((((HSR.out.setBlk (k := 0) 0 rfl (.slice none 0 0)).setBlk (k := 1) 0 rfl (.slice none 0 0)).setBlk (k := 2) 0 rfl (.slice none 0 0)).setBlk (k := 3) 0 rfl (.slice none 0 0)).setBlk (k := 4) 0 rfl (.slice none 0 0))
    have q0 := HSF.out.cell (k := 0) 0 rfl rfl
    have q1 := HSF.out.cell (k := 1) 0 rfl rfl
    have q2 := HSF.out.cell (k := 2) 0 rfl rfl
    have q3 := HSF.out.cell (k := 3) 0 rfl rfl
    have q4 := HSF.out.cell (k := 4) 0 rfl rfl
    exact bodyPost_ret (v := .tuple #[.agg zTell.toArray, .int .i64 0, .bool false]) (by simp [results, Try.results22, go_sem, zTell, q0, q1, q2, q3, q4]) rfl (settleNo HSF.out.bel0)
  | true =>
    have HF : Hid (Pl.settleTell t = ((Pl.settleTo t t.Texts.length).1, (Pl.settleTo t t.Texts.length).2, true)) := if_pos HGD.out
    have HWF := Lib.hid (Pl.good_wf HGD.out)
    have HLE := Lib.hid (Pl.good_hle HGD.out)
    have hn1 := Pl.good_n HGD.out
    have hn4 := HWF.out.n4
    go_wp2_with (first
      | (go_at_call 20; refine CI.mono ?_; rintro e w1 ⟨rfl, hb1⟩; (have HS1 := Lib.hid (HS.out.step hb1)); (have HRT1 := Lib.hid (rTell.keep HRT0.out (w' := w1) fun b hb => hb1.block b (Nat.lt_of_lt_of_le hb HBW.out))); (have HBW1 := Lib.hid (Nat.le_trans HBW.out hb1.size)); (clear b0 b1 b2 b3 b4 r0 r1 r2 r3 r4 z0 z1 z2 z3 z4); clear hb1; (have b0 := HS1.out.cell (k := 0) 1 rfl rfl); (have b1 := HS1.out.cell (k := 1) 1 rfl rfl); (have b2 := HS1.out.cell (k := 2) 1 rfl rfl); (have b3 := HS1.out.cell (k := 3) 1 rfl rfl); (have b4 := HS1.out.cell (k := 4) 1 rfl rfl))
      | (go_at_call 51; refine (l10Own_c t _ w1 B HRT1.out HBW1.out HWF.out.sz).mono ?_; rintro e w2 ⟨cs5, fp5, rfl, ho, hnd, hnew, hb2⟩; obtain ⟨a0, k0, a1, k1, a2, k2, a3, k3, a4, k4, rfl⟩ := own_form ho; (have HS2 := Lib.hid (HS1.out.add hb2 (t := Mm.tow rTell t _ _) ho hnd hnew)); clear ho hnd hnew hb2 b0 b1 b2 b3 b4; (have HS2b := Lib.hid (HS2.out.alloc' rfl 31 [.slice a0 t.Texts.length k0, .slice a1 t.Heard.length k1, .slice a2 t.Line.length k2, .slice a3 t.Log.length k3, .slice a4 t.Next.length k4])); (have s0 := HS2b.out.cell (k := 0) 0 rfl rfl)))
    obtain ⟨g5, hg5⟩ : ∃ g5, w2.heap.size = g5 := ⟨_, rfl⟩
    rw [hg5] at HS2b ⊢
    clear hg5 s0 HS2 HRT1 HBW1
    obtain ⟨W2, hW2⟩ : ∃ W2, w2.alloc (.cells #[.slice a0 t.Texts.length k0, .slice a1 t.Heard.length k1, .slice a2 t.Line.length k2, .slice a3 t.Log.length k3, .slice a4 t.Next.length k4] 31) = W2 := ⟨_, rfl⟩
    have HS3 := Lib.hid ((HS2b.out.sel [1, 0, 2] (by decide) rfl).atW hW2)
    rw [hW2]
    clear HS2b hW2
    obtain ⟨n, hn⟩ : ∃ n, t.Texts.length = n := ⟨_, rfl⟩
    rw [hn] at HF hn1 hn4 ⊢
    have HN := Lib.hid hn
    clear hn
    go_loopg [6, 17] n (fun g cnt i wr => ∃ (k : Nat) (fp : List Nat) (c : Int) (A0 : Option Addr) (c0 : Nat) (A1 : Option Addr) (c1 : Nat) (A2 : Option Addr) (c2 : Nat) (A3 : Option Addr) (c3 : Nat) (A4 : Option Addr) (c4 : Nat), n - k ≤ g ∧ k ≤ n ∧ cnt = .int .i64 c ∧ i = .int .i64 k ∧ Hid (c = (Pl.settleTo t k).2 ∧ ∃ x : Tell, x = (Pl.settleTo t k).1 ∧ Mm.SepF [] w wr [Mm.tow rTell x [.slice A0 x.Texts.length c0, .slice A1 x.Heard.length c1, .slice A2 x.Line.length c2, .slice A3 x.Log.length c3, .slice A4 x.Next.length c4] fp, Mm.tblk g5 31 [.slice A0 x.Texts.length c0, .slice A1 x.Heard.length c1, .slice A2 x.Line.length c2, .slice A3 x.Log.length c3, .slice A4 x.Next.length c4], Mm.tblk gr 31 zTell]))
    case atStart => exact ⟨0, _, 0, a0, k0, a1, k1, a2, k2, a3, k3, a4, k4, Nat.le_refl _, Nat.zero_le _, rfl, rfl, Lib.hid ⟨rfl, t, rfl, HS3.out⟩⟩
    case round =>
      clear HS3
      obtain ⟨k, fp, c, A0, c0, A1, c1, A2, c2, A3, c3, A4, c4, hgk, hk, rfl, rfl, HS'⟩ := hrel
      obtain ⟨Wo, rfl⟩ : ∃ Wo : World, Wo = wr := ⟨_, rfl⟩
      have HC := Lib.hid HS'.out.1
      obtain ⟨xk, hxk, hsk⟩ := HS'.out.2
      have HXK := Lib.hid hxk
      have HSk := Lib.hid hsk
      clear HS' hxk hsk
      have HOK := Lib.hid (Pl.settleTo_ok HWF.out HLE.out k (by rw [HN.out]; exact hk))
      by_cases hlt : k < n
      · have f1 : ((k : Nat) : Int) < ((n : Nat) : Int) := by omega
        have f2 : (0 : Int) ≤ (k : Nat) := by omega
        have f3 : ((k : Nat) : Int).toNat = k := by omega
        go_wp2
        go_loopg [6] 21 (fun g2 cnt wr => ∃ (f : Nat) (x : Tell) (fp : List Nat) (c : Int) (A0 : Option Addr) (c0 : Nat) (A1 : Option Addr) (c1 : Nat) (A2 : Option Addr) (c2 : Nat) (A3 : Option Addr) (c3 : Nat) (A4 : Option Addr) (c4 : Nat), f ≤ g2 ∧ cnt = .int .i64 c ∧ 0 ≤ c ∧ c + f ≤ 1000 ∧ Hid (Pl.settleF f x k c = Pl.settleTo t (k + 1) ∧ ((Pl.tAt x k).length : Int) - Pl.iAt x.Heard k ≤ f ∧ Pl.TWf x ∧ Pl.HLe x ∧ x.Texts = t.Texts ∧ Mm.SepF [] w wr [Mm.tow rTell x [.slice A0 x.Texts.length c0, .slice A1 x.Heard.length c1, .slice A2 x.Line.length c2, .slice A3 x.Log.length c3, .slice A4 x.Next.length c4] fp, Mm.tblk g5 31 [.slice A0 x.Texts.length c0, .slice A1 x.Heard.length c1, .slice A2 x.Line.length c2, .slice A3 x.Log.length c3, .slice A4 x.Next.length c4], Mm.tblk gr 31 zTell]))
        case atStart => exact ⟨21, xk, fp, c, A0, c0, A1, c1, A2, c2, A3, c3, A4, c4, Nat.le_refl _, rfl, by rw [HC.out]; exact HOK.out.2.2.2.1, by have := HOK.out.2.2.2.2; rw [HC.out]; omega, Lib.hid ⟨by rw [HC.out, HXK.out]; rfl, by rw [HXK.out]; exact Pl.settle_len HOK.out.1 (by rw [HOK.out.2.2.1, HN.out]; exact hlt), by rw [HXK.out]; exact HOK.out.1, by rw [HXK.out]; exact HOK.out.2.1, by rw [HXK.out]; exact HOK.out.2.2.1, HSk.out⟩⟩
        case round =>
          clear HSk HC HOK HXK
          obtain ⟨f, x, fp, c, A0, c0, A1, c1, A2, c2, A3, c3, A4, c4, hfg, rfl, hc0, hc1, HR⟩ := hrel
          obtain ⟨Wi, rfl⟩ : ∃ Wi : World, Wi = wr := ⟨_, rfl⟩
          have HXW := Lib.hid HR.out.2.2.1
          have HXL := Lib.hid HR.out.2.2.2.1
          have HXT := Lib.hid HR.out.2.2.2.2.1
          have HFE := Lib.hid HR.out.1
          have hfl := HR.out.2.1
          have HSx := Lib.hid HR.out.2.2.2.2.2
          clear HR
          obtain ⟨B0, d0, B1, d1, B2, d2, B3, d3, B4, d4, v0, v1, v2, v3, v4, he, rfl, hs⟩ := openv_Tell HSx.out
          have HEQ := Lib.hid he
          have HS := Lib.hid hs
          clear hs he
          have hB0 : B0 = A0 ∧ d0 = c0 ∧ B1 = A1 ∧ d1 = c1 := by
            have he := HEQ.out
            injection he with e0 he
            injection he with e1 he
            injection e0 with e0 _ g0
            injection e1 with e1 _ g1
            exact ⟨e0.symm, g0.symm, e1.symm, g1.symm⟩
          obtain ⟨rfl, rfl, rfl, rfl⟩ := hB0
          have hxl : x.Texts.length = n := by rw [HXT.out, HN.out]
          have hxh : x.Heard.length = n := by rw [HXW.out.heard, hxl]
          obtain ⟨g0, hA0, -, -⟩ := Mm.sl_addr (HS.out.sl 0 rfl) (by rw [hxl]; omega)
          obtain ⟨g1, hA1, -, -⟩ := Mm.sl_addr (HS.out.sl 1 rfl) (by rw [hxh]; omega)
          subst hA0 hA1
          obtain ⟨ys, hy⟩ : ∃ ys, x.Texts[k]? = some ys := ⟨_, List.getElem?_eq_getElem (by rw [hxl]; exact hlt)⟩
          obtain ⟨a, ha⟩ : ∃ a, x.Heard[k]? = some a := ⟨_, List.getElem?_eq_getElem (by rw [hxh]; exact hlt)⟩
          have hyt := Pl.tAt_of (t := x) (k := (k : Int)) (l := ys) (by simpa using hy)
          have hai := Pl.iAt_of (l := x.Heard) (k := (k : Int)) (a := a) (by simpa using ha)
          obtain ⟨A, m, d, fx, e0, rfl, -⟩ := HS.out.openIn 0 rfl hy
          have e1 := int_ocell (HS.out.sl 1 rfl) (HS.out.ndat (i := 1) rfl) ha
          have hys := HXW.out.texts k ys hy
          have hab := HXW.out.hd k a ys ha hy
          have HYT := Lib.hid hyt
          have HAI := Lib.hid hai
          rw [hyt, hai] at hfl
          have f4 : ((k : Nat) : Int) < ((x.Texts.length : Nat) : Int) := by omega
          have f5 : ((k : Nat) : Int) < ((x.Heard.length : Nat) : Int) := by omega
          have hcap : x.Texts.length ≤ d0 ∧ d0 ≤ maxLen := by obtain ⟨A', n', c', hv, h1, h2, h3, _⟩ := (HS.out.sl 0 rfl).form; injection hv with _ h4 h5; omega
          have hcap1 : x.Heard.length ≤ d1 ∧ d1 ≤ maxLen := by obtain ⟨A', n', c', hv, h1, h2, h3, _⟩ := (HS.out.sl 1 rfl).form; injection hv with _ h4 h5; omega
          unfold maxLen at hcap hcap1
          have HXN := Lib.hid (And.intro hxl hxh)
          clear hy ha hyt hai hxl hxh
          have b0 := HSx.out.cell (k := 0) 1 rfl rfl
          have b1 := HSx.out.cell (k := 1) 1 rfl rfl
          by_cases hlen : a < (ys.length : Nat)
          · obtain ⟨f, rfl⟩ : ∃ f', f = f' + 1 := ⟨f - 1, by omega⟩
            have HSO := Lib.hid (Pl.settle_one HXW.out HXL.out (k := k) (by rw [HXN.out.1]; exact hlt) (by rw [HYT.out, HAI.out]; exact hlen))
            have HF1 : Hid (Pl.settleF f (Pl.settleOne x k) k (c + 1) = Pl.settleTo t (k + 1)) := Lib.hid (by
              rw [← HFE.out]
              show _ = if Pl.iAt x.Heard k < (Pl.tAt x k).length then _ else _
              rw [if_pos (by rw [HYT.out, HAI.out]; exact hlen)])
            have u1' : decide (a < ((ys.length : Nat) : Int)) = true := by simp [hlen]
            have hwc : IntKind.i64.wrap (c + 1) = c + 1 := IntWalk.i64_in _ (by omega)
            go_wp2
            refine wp_region_und (by kernel_rfl) (by kernel_rfl) ?_
            repeat (go_big_quiet_step ((first | fail)))
            refine wpQuiet_nil ?_
            intro X hX
            have HS1 := Lib.hid (HSx.out.step hX)
            clear b0 b1 e0 e1 hX HS HSx
            have b2 := HS1.out.cell (k := 2) 1 rfl rfl
            have z2 := HS1.out.frz (k := 2) 1 rfl
            obtain ⟨fpn, hsn⟩ := noLine_shutv HS1.out
            have HSN := Lib.hid hsn
            clear hsn
            go_upto_region 10 with fail
            obtain ⟨Wn, hWn⟩ : ∃ Wn, X.setCell ⟨g5, 2, none⟩ (.slice none 0 0) = Wn := ⟨_, rfl⟩
            rw [hWn] at HSN ⊢
            clear hWn b2 z2 HS1
            have HW0 := Lib.hid (Pl.noLine_wf HXW.out)
            have CC := l10Step_c (Pl.noLine x) ⟨2, k, ⟨#[]⟩⟩ _ fpn Wn (HSN.out.at_ 0 rfl) (HSN.out.ndat (i := 0) rfl) ⟨by show Mm.I64 ((k : Nat) : Int); unfold Mm.I64; omega, Nat.zero_le _⟩ HW0.out
            have HW1 := Lib.hid (HW0.out.step ⟨2, k, ⟨#[]⟩⟩)
            have HW2 := Lib.hid (HW1.out.step ⟨3, 0, ⟨#[]⟩⟩)
            have HI0 : Hid (Mm.I64 0) := Lib.hid (by unfold Mm.I64; omega)
            obtain ⟨y1, hy1⟩ : ∃ y1, (Pl.tstep (Pl.noLine x) ⟨2, k, ⟨#[]⟩⟩).1 = y1 := ⟨_, rfl⟩
            unfold TellAns2 at CC
            rw [hy1] at HW1 HW2 CC
            obtain ⟨y2, hy2⟩ : ∃ y2, (Pl.tstep y1 ⟨3, 0, ⟨#[]⟩⟩).1 = y2 := ⟨_, rfl⟩
            rw [hy2] at HW2
            obtain ⟨y3, hy3⟩ : ∃ y3, (Pl.tstep y2 ⟨3, 0, ⟨#[]⟩⟩).1 = y3 := ⟨_, rfl⟩
            have HY2 := Lib.hid hy2
            have HY3 := Lib.hid hy3
            have HYO : Hid (Pl.settleOne x k = y3) := Lib.hid (by rw [← hy3, ← hy2, ← hy1]; rfl)
            clear hy1 hy2 hy3
            have u0 := HSN.out.cell (k := 0) 1 rfl rfl
            have u1 := HSN.out.cell (k := 1) 1 rfl rfl
            have u2 := HSN.out.cell (k := 2) 1 rfl rfl
            have u3 := HSN.out.cell (k := 3) 1 rfl rfl
            have u4 := HSN.out.cell (k := 4) 1 rfl rfl
            go_wp2_with fail
            refine CC.mono ?_
            rintro e wa1 ⟨ca1, fa1, rfl, hL⟩
            have hA := HSN.out.call 0 rfl hL
            obtain ⟨a0, k0, a1, k1, a2, k2, a3, k3, a4, k4, rfl⟩ := own_form (hA.at_ 0 rfl)
            have HA' := Lib.hid hA
            clear hL hA CC u0 u1 u2 u3 u4
            have HSR := HA'
            have r0 := HA'.out.cell (k := 0) 1 rfl rfl
            have r1 := HA'.out.cell (k := 1) 1 rfl rfl
            have r2 := HA'.out.cell (k := 2) 1 rfl rfl
            have r3 := HA'.out.cell (k := 3) 1 rfl rfl
            have r4 := HA'.out.cell (k := 4) 1 rfl rfl
            have z0 := HA'.out.frz (k := 0) 1 rfl
            have z1 := HA'.out.frz (k := 1) 1 rfl
            have z2 := HA'.out.frz (k := 2) 1 rfl
            have z3 := HA'.out.frz (k := 3) 1 rfl
            have z4 := HA'.out.frz (k := 4) 1 rfl
            go_upto_region 11 with fail
            obtain ⟨wb1, hWB⟩ : ∃ wb1, ((((wa1.setCell ⟨g5, 0, none⟩ (.slice a0 y1.Texts.length k0)).setCell ⟨g5, 1, none⟩ (.slice a1 y1.Heard.length k1)).setCell ⟨g5, 2, none⟩ (.slice a2 y1.Line.length k2)).setCell ⟨g5, 3, none⟩ (.slice a3 y1.Log.length k3)).setCell ⟨g5, 4, none⟩ (.slice a4 y1.Next.length k4) = wb1 := ⟨_, rfl⟩
            have HSA := Lib.hid ((((((HA'.out.setBlk (k := 0) 1 rfl (.slice a0 y1.Texts.length k0)).setBlk (k := 1) 1 rfl (.slice a1 y1.Heard.length k1)).setBlk (k := 2) 1 rfl (.slice a2 y1.Line.length k2)).setBlk (k := 3) 1 rfl (.slice a3 y1.Log.length k3)).setBlk (k := 4) 1 rfl (.slice a4 y1.Next.length k4)).atW hWB)
            rw [hWB]
            clear hWB HSR HA' HSN r0 r1 r2 r3 r4 z0 z1 z2 z3 z4
            have CC := l10Step_c y1 ⟨3, 0, ⟨#[]⟩⟩ _ _ wb1 (HSA.out.at_ 0 rfl) (HSA.out.ndat (i := 0) rfl) ⟨HI0.out, Nat.zero_le _⟩ HW1.out
            unfold TellAns2 at CC
            rw [HY2.out] at CC
            have u0 := HSA.out.cell (k := 0) 1 rfl rfl
            have u1 := HSA.out.cell (k := 1) 1 rfl rfl
            have u2 := HSA.out.cell (k := 2) 1 rfl rfl
            have u3 := HSA.out.cell (k := 3) 1 rfl rfl
            have u4 := HSA.out.cell (k := 4) 1 rfl rfl
            go_wp2_with fail
            refine CC.mono ?_
            rintro e wa2 ⟨ca2, fa2, rfl, hL⟩
            have hA := HSA.out.call 0 rfl hL
            obtain ⟨a0, k0, a1, k1, a2, k2, a3, k3, a4, k4, rfl⟩ := own_form (hA.at_ 0 rfl)
            have HA' := Lib.hid hA
            clear hL hA CC u0 u1 u2 u3 u4
            have HSR := HA'
            have r0 := HA'.out.cell (k := 0) 1 rfl rfl
            have r1 := HA'.out.cell (k := 1) 1 rfl rfl
            have r2 := HA'.out.cell (k := 2) 1 rfl rfl
            have r3 := HA'.out.cell (k := 3) 1 rfl rfl
            have r4 := HA'.out.cell (k := 4) 1 rfl rfl
            have z0 := HA'.out.frz (k := 0) 1 rfl
            have z1 := HA'.out.frz (k := 1) 1 rfl
            have z2 := HA'.out.frz (k := 2) 1 rfl
            have z3 := HA'.out.frz (k := 3) 1 rfl
            have z4 := HA'.out.frz (k := 4) 1 rfl
            go_upto_region 12 with fail
            obtain ⟨wb2, hWB⟩ : ∃ wb2, ((((wa2.setCell ⟨g5, 0, none⟩ (.slice a0 y2.Texts.length k0)).setCell ⟨g5, 1, none⟩ (.slice a1 y2.Heard.length k1)).setCell ⟨g5, 2, none⟩ (.slice a2 y2.Line.length k2)).setCell ⟨g5, 3, none⟩ (.slice a3 y2.Log.length k3)).setCell ⟨g5, 4, none⟩ (.slice a4 y2.Next.length k4) = wb2 := ⟨_, rfl⟩
            have HSB := Lib.hid ((((((HA'.out.setBlk (k := 0) 1 rfl (.slice a0 y2.Texts.length k0)).setBlk (k := 1) 1 rfl (.slice a1 y2.Heard.length k1)).setBlk (k := 2) 1 rfl (.slice a2 y2.Line.length k2)).setBlk (k := 3) 1 rfl (.slice a3 y2.Log.length k3)).setBlk (k := 4) 1 rfl (.slice a4 y2.Next.length k4)).atW hWB)
            rw [hWB]
            clear hWB HSR HA' HSA r0 r1 r2 r3 r4 z0 z1 z2 z3 z4
            have CC := l10Step_c y2 ⟨3, 0, ⟨#[]⟩⟩ _ _ wb2 (HSB.out.at_ 0 rfl) (HSB.out.ndat (i := 0) rfl) ⟨HI0.out, Nat.zero_le _⟩ HW2.out
            unfold TellAns2 at CC
            rw [HY3.out] at CC
            have u0 := HSB.out.cell (k := 0) 1 rfl rfl
            have u1 := HSB.out.cell (k := 1) 1 rfl rfl
            have u2 := HSB.out.cell (k := 2) 1 rfl rfl
            have u3 := HSB.out.cell (k := 3) 1 rfl rfl
            have u4 := HSB.out.cell (k := 4) 1 rfl rfl
            go_wp2_with fail
            refine CC.mono ?_
            rintro e wa3 ⟨ca3, fa3, rfl, hL⟩
            have hA := HSB.out.call 0 rfl hL
            obtain ⟨a0, k0, a1, k1, a2, k2, a3, k3, a4, k4, rfl⟩ := own_form (hA.at_ 0 rfl)
            have HA' := Lib.hid hA
            clear hL hA CC u0 u1 u2 u3 u4
            have HSR := HA'
            have r0 := HA'.out.cell (k := 0) 1 rfl rfl
            have r1 := HA'.out.cell (k := 1) 1 rfl rfl
            have r2 := HA'.out.cell (k := 2) 1 rfl rfl
            have r3 := HA'.out.cell (k := 3) 1 rfl rfl
            have r4 := HA'.out.cell (k := 4) 1 rfl rfl
            have z0 := HA'.out.frz (k := 0) 1 rfl
            have z1 := HA'.out.frz (k := 1) 1 rfl
            have z2 := HA'.out.frz (k := 2) 1 rfl
            have z3 := HA'.out.frz (k := 3) 1 rfl
            have z4 := HA'.out.frz (k := 4) 1 rfl
            go_upto_region 13 with fail
            obtain ⟨wb3, hWB⟩ : ∃ wb3, ((((wa3.setCell ⟨g5, 0, none⟩ (.slice a0 y3.Texts.length k0)).setCell ⟨g5, 1, none⟩ (.slice a1 y3.Heard.length k1)).setCell ⟨g5, 2, none⟩ (.slice a2 y3.Line.length k2)).setCell ⟨g5, 3, none⟩ (.slice a3 y3.Log.length k3)).setCell ⟨g5, 4, none⟩ (.slice a4 y3.Next.length k4) = wb3 := ⟨_, rfl⟩
            have HSC := Lib.hid ((((((HA'.out.setBlk (k := 0) 1 rfl (.slice a0 y3.Texts.length k0)).setBlk (k := 1) 1 rfl (.slice a1 y3.Heard.length k1)).setBlk (k := 2) 1 rfl (.slice a2 y3.Line.length k2)).setBlk (k := 3) 1 rfl (.slice a3 y3.Log.length k3)).setBlk (k := 4) 1 rfl (.slice a4 y3.Next.length k4)).atW hWB)
            rw [hWB]
            clear hWB HSR HA' HSB r0 r1 r2 r3 r4 z0 z1 z2 z3 z4
            rw [HYO.out] at HF1 HSO
            go_wp2
            go_roundg f
            case measure => omega
            case rel => exact ⟨f, y3, fa3, c + 1, a0, k0, a1, k1, a2, k2, a3, k3, a4, k4, Nat.le_refl _, rfl, by omega, by omega, Lib.hid ⟨HF1.out, by
              have h1 := HSO.out.2.2.2
              have h2 : Pl.tAt y3 (k : Int) = Pl.tAt x k := by unfold Pl.tAt; rw [HSO.out.2.2.1]
              rw [h2, HYT.out]
              rw [HAI.out] at h1
              omega, HSO.out.1, HSO.out.2.1, HSO.out.2.2.1.trans HXT.out, HSC.out⟩⟩
          · have u1' : decide (a < ((ys.length : Nat) : Int)) = false := by simp; omega
            have HF1 : Hid (Pl.settleTo t (k + 1) = (x, c)) := Lib.hid (by
              rw [← HFE.out]
              cases f with
              | zero => rfl
              | succ f =>
                show (if Pl.iAt x.Heard k < (Pl.tAt x k).length then _ else _) = _
                rw [if_neg (by rw [HYT.out, HAI.out]; exact hlen)])
            go_wp2
            refine wp_region_und (by kernel_rfl) (by kernel_rfl) ?_
            repeat (go_big_quiet_step ((first | fail)))
            refine wpQuiet_nil ?_
            intro X hX
            have HS1 := Lib.hid (HSx.out.step hX)
            clear b0 b1 e0 e1 hX
            go_wp2
            go_roundg (n - (k + 1))
            case measure => omega
            case rel => exact ⟨k + 1, _, c, _, _, _, _, _, _, _, _, _, _, Nat.le_refl _, by omega, rfl, by go_num, Lib.hid ⟨by rw [HF1.out], x, by rw [HF1.out], HS1.out⟩⟩
      · obtain rfl : n = k := by omega
        have f1 : ¬ ((n : Nat) : Int) < ((n : Nat) : Int) := by omega
        have HWK := Lib.hid HOK.out.1
        rw [← HXK.out] at HWK
        have HS := HSk
        have u0 := HS.out.cell (k := 0) 1 rfl rfl
        have u1 := HS.out.cell (k := 1) 1 rfl rfl
        have u2 := HS.out.cell (k := 2) 1 rfl rfl
        have u3 := HS.out.cell (k := 3) 1 rfl rfl
        have u4 := HS.out.cell (k := 4) 1 rfl rfl
        go_wp2_with (go_at_call 51; refine (l10Own_c xk _ Wo Wo.heap.size (HS.out.rd 0 rfl) (Nat.le_refl _) HWK.out.sz).mono ?_; rintro e w5 ⟨cs5, fp5, rfl, ho, hnd, hnew, hb5⟩; obtain ⟨A10, c10, A11, c11, A12, c12, A13, c13, A14, c14, rfl⟩ := own_form ho; (have HSR := Lib.hid (HS.out.add hb5 (t := Mm.tow rTell xk _ _) ho hnd hnew)); clear ho hnd hnew hb5; (have r0 := HSR.out.cell (k := 0) 3 rfl rfl); (have r1 := HSR.out.cell (k := 1) 3 rfl rfl); (have r2 := HSR.out.cell (k := 2) 3 rfl rfl); (have r3 := HSR.out.cell (k := 3) 3 rfl rfl); (have r4 := HSR.out.cell (k := 4) 3 rfl rfl); (have z0 := HSR.out.frz (k := 0) 3 rfl); (have z1 := HSR.out.frz (k := 1) 3 rfl); (have z2 := HSR.out.frz (k := 2) 3 rfl); (have z3 := HSR.out.frz (k := 3) 3 rfl); (have z4 := HSR.out.frz (k := 4) 3 rfl))
        have HSF := Lib.hid (((((HSR.out.setBlk (k := 0) 3 rfl (.slice A10 xk.Texts.length c10)).setBlk (k := 1) 3 rfl (.slice A11 xk.Heard.length c11)).setBlk (k := 2) 3 rfl (.slice A12 xk.Line.length c12)).setBlk (k := 3) 3 rfl (.slice A13 xk.Log.length c13)).setBlk (k := 4) 3 rfl (.slice A14 xk.Next.length c14))
        have q0 := HSF.out.cell (k := 0) 3 rfl rfl
        have q1 := HSF.out.cell (k := 1) 3 rfl rfl
        have q2 := HSF.out.cell (k := 2) 3 rfl rfl
        have q3 := HSF.out.cell (k := 3) 3 rfl rfl
        have q4 := HSF.out.cell (k := 4) 3 rfl rfl
        rw [HF.out, ← HC.out, ← HXK.out]
        exact bodyPost_ret (v := .tuple #[.agg #[.slice A10 xk.Texts.length c10, .slice A11 xk.Heard.length c11, .slice A12 xk.Line.length c12, .slice A13 xk.Log.length c13, .slice A14 xk.Next.length c14], .int .i64 c, .bool true]) (by simp [results, Try.results22, go_sem, q0, q1, q2, q3, q4]) rfl ⟨_, _, rfl, HSF.out.sel [0] (by decide) rfl⟩
end Go.Proofs.Ytaepohocabealaa

/-
  The laws' own comparisons answer true of two things that read alike. No conditions.
-/
namespace Go.Proofs.Ytaepohocabealaa
open Go.RowKit
attribute [local go_sem] und_cell
set_option maxHeartbeats 1000000 in
theorem eqIntS_c (l : List Int) (A A' : Option Addr) (n n' c c' : Nat) (w : World) (B : Nat) (hl : Mm.SlAt Mm.int w B l A n c) (hl' : Mm.SlAt Mm.int w B l A' n' c') (hB : B ≤ w.heap.size) :
    Calls Try.prog 65 #[.slice A n c, .slice A' n' c'] w fun e w' => e = .returned (.bool true) ∧ Below w.heap.size w w' := by
  obtain rfl : n = n' := hl.1.symm.trans hl'.1
  have hn : n ≤ 9223372036854775807 := by have := hl.2.1; have := hl.2.2.1; unfold maxLen at this; omega
  have HL : Hid (Mm.SlAt Mm.int w B l A n c ∧ Mm.SlAt Mm.int w B l A' n c') := ⟨hl, hl'⟩
  clear hl hl'
  go_enter Try.func65, Try.ntmps65
  go_wp2
  go_loopw [5] (fun i wr => ∃ k : Nat, k ≤ n ∧ i = .int .i64 k ∧ Below w.heap.size w wr) (fun i _ => n - (intOf i).toNat)
  case atStart => exact ⟨0, Nat.zero_le _, rfl, Below.refl _ _⟩
  case round =>
    obtain ⟨k, hk, rfl, hbel⟩ := hrel
    rename_i wr _
    by_cases hlt : k < n
    · obtain ⟨x, b, off, hx, rfl, hb, uf0, uc0⟩ := int_get (HL.out.1.keep (w' := wr) (fun b hb => hbel.block b (by omega))) hlt
      obtain ⟨y, b', off', hy, rfl, hb', vf0, vc0⟩ := int_get (HL.out.2.keep (w' := wr) (fun b hb => hbel.block b (by omega))) hlt
      obtain rfl : x = y := by rw [hx] at hy; injection hy
      have hBw : B ≤ wr.heap.size := Nat.le_trans hB hbel.size
      clear hx hy uf0 vf0
      go_wp2
      refine wp_region_und (by kernel_rfl) (by kernel_rfl) ?_
      repeat (go_big_quiet_step ((first | fail)))
      refine wpQuiet_nil ?_
      intro X hX
      go_wp2
      go_roundw
      case rel => exact ⟨k + 1, by omega, by go_num, below_step hbel hX⟩
      case measure => simp [intOf]; omega
    · go_wp2
      go_ret
      exact ⟨rfl, hbel⟩
set_option maxHeartbeats 1000000 in
theorem eqStringS_c (l : List ByteArray) (A A' : Option Addr) (n n' c c' : Nat) (w : World) (B : Nat) (hl : Mm.SlAt Mm.str w B l A n c) (hl' : Mm.SlAt Mm.str w B l A' n' c') (hB : B ≤ w.heap.size) :
    Calls Try.prog 103 #[.slice A n c, .slice A' n' c'] w fun e w' => e = .returned (.bool true) ∧ Below w.heap.size w w' := by
  obtain rfl : n = n' := hl.1.symm.trans hl'.1
  have hn : n ≤ 9223372036854775807 := by have := hl.2.1; have := hl.2.2.1; unfold maxLen at this; omega
  have HL : Hid (Mm.SlAt Mm.str w B l A n c ∧ Mm.SlAt Mm.str w B l A' n c') := ⟨hl, hl'⟩
  clear hl hl'
  go_enter Try.func103, Try.ntmps103
  go_wp2
  go_loopw [5] (fun i wr => ∃ k : Nat, k ≤ n ∧ i = .int .i64 k ∧ Below w.heap.size w wr) (fun i _ => n - (intOf i).toNat)
  case atStart => exact ⟨0, Nat.zero_le _, rfl, Below.refl _ _⟩
  case round =>
    obtain ⟨k, hk, rfl, hbel⟩ := hrel
    rename_i wr _
    by_cases hlt : k < n
    · obtain ⟨x, b, off, hx, rfl, hb, uf0, uc0⟩ := str_get (HL.out.1.keep (w' := wr) (fun b hb => hbel.block b (by omega))) hlt
      obtain ⟨y, b', off', hy, rfl, hb', vf0, vc0⟩ := str_get (HL.out.2.keep (w' := wr) (fun b hb => hbel.block b (by omega))) hlt
      obtain rfl : x = y := by rw [hx] at hy; injection hy
      have hBw : B ≤ wr.heap.size := Nat.le_trans hB hbel.size
      clear hx hy uf0 vf0
      go_wp2
      refine wp_region_und (by kernel_rfl) (by kernel_rfl) ?_
      repeat (go_big_quiet_step ((first | fail)))
      refine wpQuiet_nil ?_
      intro X hX
      go_wp2
      go_roundw
      case rel => exact ⟨k + 1, by omega, by go_num, below_step hbel hX⟩
      case measure => simp [intOf]; omega
    · go_wp2
      go_ret
      exact ⟨rfl, hbel⟩
set_option maxHeartbeats 1000000 in
theorem eqBoolS_c (l : List Bool) (A A' : Option Addr) (n n' c c' : Nat) (w : World) (B : Nat) (hl : Mm.SlAt Mm.bool w B l A n c) (hl' : Mm.SlAt Mm.bool w B l A' n' c') (hB : B ≤ w.heap.size) :
    Calls Try.prog 34 #[.slice A n c, .slice A' n' c'] w fun e w' => e = .returned (.bool true) ∧ Below w.heap.size w w' := by
  obtain rfl : n = n' := hl.1.symm.trans hl'.1
  have hn : n ≤ 9223372036854775807 := by have := hl.2.1; have := hl.2.2.1; unfold maxLen at this; omega
  have HL : Hid (Mm.SlAt Mm.bool w B l A n c ∧ Mm.SlAt Mm.bool w B l A' n c') := ⟨hl, hl'⟩
  clear hl hl'
  go_enter Try.func34, Try.ntmps34
  go_wp2
  go_loopw [5] (fun i wr => ∃ k : Nat, k ≤ n ∧ i = .int .i64 k ∧ Below w.heap.size w wr) (fun i _ => n - (intOf i).toNat)
  case atStart => exact ⟨0, Nat.zero_le _, rfl, Below.refl _ _⟩
  case round =>
    obtain ⟨k, hk, rfl, hbel⟩ := hrel
    rename_i wr _
    by_cases hlt : k < n
    · obtain ⟨x, b, off, hx, rfl, hb, uc0⟩ := bool_get (HL.out.1.keep (w' := wr) (fun b hb => hbel.block b (by omega))) hlt
      obtain ⟨y, b', off', hy, rfl, hb', vc0⟩ := bool_get (HL.out.2.keep (w' := wr) (fun b hb => hbel.block b (by omega))) hlt
      obtain rfl : x = y := by rw [hx] at hy; injection hy
      have hBw : B ≤ wr.heap.size := Nat.le_trans hB hbel.size
      clear hx hy
      go_wp2
      refine wp_region_und (by kernel_rfl) (by kernel_rfl) ?_
      repeat (go_big_quiet_step ((first | fail)))
      refine wpQuiet_nil ?_
      intro X hX
      go_wp2
      go_roundw
      case rel => exact ⟨k + 1, by omega, by go_num, below_step hbel hX⟩
      case measure => simp [intOf]; omega
    · go_wp2
      go_ret
      exact ⟨rfl, hbel⟩
set_option maxHeartbeats 1000000 in
theorem eqStringSS_c (l : List (List ByteArray)) (A A' : Option Addr) (n n' c c' : Nat) (w : World) (B : Nat) (hl : Mm.SlAt strs w B l A n c) (hl' : Mm.SlAt strs w B l A' n' c') (hB : B ≤ w.heap.size) :
    Calls Try.prog 64 #[.slice A n c, .slice A' n' c'] w fun e w' => e = .returned (.bool true) ∧ Below w.heap.size w w' := by
  obtain rfl : n = n' := hl.1.symm.trans hl'.1
  have hn : n ≤ 9223372036854775807 := by have := hl.2.1; have := hl.2.2.1; unfold maxLen at this; omega
  have HL : Hid (Mm.SlAt strs w B l A n c ∧ Mm.SlAt strs w B l A' n c') := ⟨hl, hl'⟩
  clear hl hl'
  go_enter Try.func64, Try.ntmps64
  go_wp2
  go_loopw [5] (fun i wr => ∃ k : Nat, k ≤ n ∧ i = .int .i64 k ∧ Below w.heap.size w wr) (fun i _ => n - (intOf i).toNat)
  case atStart => exact ⟨0, Nat.zero_le _, rfl, Below.refl _ _⟩
  case round =>
    obtain ⟨k, hk, rfl, hbel⟩ := hrel
    rename_i wr _
    by_cases hlt : k < n
    · obtain ⟨x, b, off, P1, p1, q1, hx, rfl, hb, uf0, uc0⟩ := strs_get (HL.out.1.keep (w' := wr) (fun b hb => hbel.block b (by omega))) hlt
      obtain ⟨y, b', off', P2, p2, q2, hy, rfl, hb', vf0, vc0⟩ := strs_get (HL.out.2.keep (w' := wr) (fun b hb => hbel.block b (by omega))) hlt
      obtain rfl : x = y := by rw [hx] at hy; injection hy
      have hBw : B ≤ wr.heap.size := Nat.le_trans hB hbel.size
      have HF := Lib.hid (And.intro uf0 vf0)
      clear hx hy uf0 vf0
      go_wp2
      refine wp_region_und (by kernel_rfl) (by kernel_rfl) ?_
      repeat (go_big_quiet_step ((first | (go_at_call 103; exact und_call _ (eqStringS_c x _ _ _ _ _ _ _ B (HF.out.1.und hBw _) (HF.out.2.und hBw _) (Nat.le_trans hBw (und_size _)))))))
      refine wpQuiet_nil ?_
      intro X hX
      go_wp2
      go_roundw
      case rel => exact ⟨k + 1, by omega, by go_num, below_step hbel hX⟩
      case measure => simp [intOf]; omega
    · go_wp2
      go_ret
      exact ⟨rfl, hbel⟩
set_option maxHeartbeats 1000000 in
theorem eqTold_c (x : Told)  (w : World) :
    Calls Try.prog 105 #[.agg #[.int .i64 x.Who, .int .i64 x.No, .string x.Text], .agg #[.int .i64 x.Who, .int .i64 x.No, .string x.Text]] w fun e w' => e = .returned (.bool true) ∧ Below w.heap.size w w' := by
  go_enter Try.func105, Try.ntmps105
  go_wp2
  go_ret
  exact ⟨rfl, below_new (below_new (Below.refl _ _) _) _⟩
set_option maxHeartbeats 1000000 in
theorem eqToldS_c (l : List Told) (A A' : Option Addr) (n n' c c' : Nat) (w : World) (B : Nat) (hl : Mm.SlAt rTold w B l A n c) (hl' : Mm.SlAt rTold w B l A' n' c') (hB : B ≤ w.heap.size) :
    Calls Try.prog 67 #[.slice A n c, .slice A' n' c'] w fun e w' => e = .returned (.bool true) ∧ Below w.heap.size w w' := by
  obtain rfl : n = n' := hl.1.symm.trans hl'.1
  have hn : n ≤ 9223372036854775807 := by have := hl.2.1; have := hl.2.2.1; unfold maxLen at this; omega
  have HL : Hid (Mm.SlAt rTold w B l A n c ∧ Mm.SlAt rTold w B l A' n c') := ⟨hl, hl'⟩
  clear hl hl'
  go_enter Try.func67, Try.ntmps67
  go_wp2
  go_loopw [5] (fun i wr => ∃ k : Nat, k ≤ n ∧ i = .int .i64 k ∧ Below w.heap.size w wr) (fun i _ => n - (intOf i).toNat)
  case atStart => exact ⟨0, Nat.zero_le _, rfl, Below.refl _ _⟩
  case round =>
    obtain ⟨k, hk, rfl, hbel⟩ := hrel
    rename_i wr _
    by_cases hlt : k < n
    · obtain ⟨x, b, off, hx, rfl, hb, uf0, uf1, uf2, uc0, uc1, uc2⟩ := rTold_get (HL.out.1.keep (w' := wr) (fun b hb => hbel.block b (by omega))) hlt
      obtain ⟨y, b', off', hy, rfl, hb', vf0, vf1, vf2, vc0, vc1, vc2⟩ := rTold_get (HL.out.2.keep (w' := wr) (fun b hb => hbel.block b (by omega))) hlt
      obtain rfl : x = y := by rw [hx] at hy; injection hy
      have hBw : B ≤ wr.heap.size := Nat.le_trans hB hbel.size
      clear hx hy uf0 uf1 uf2 vf0 vf1 vf2
      go_wp2
      refine wp_region_und (by kernel_rfl) (by kernel_rfl) ?_
      repeat (go_big_quiet_step ((first | (go_at_call 105; exact und_call _ (eqTold_c x _)))))
      refine wpQuiet_nil ?_
      intro X hX
      go_wp2
      go_roundw
      case rel => exact ⟨k + 1, by omega, by go_num, below_step hbel hX⟩
      case measure => simp [intOf]; omega
    · go_wp2
      go_ret
      exact ⟨rfl, hbel⟩
set_option maxHeartbeats 1000000 in
theorem eqNote_c (x : Note)  (w : World) :
    Calls Try.prog 104 #[.agg #[.bool x.Back, .int .i64 x.What.Who, .int .i64 x.What.No, .string x.What.Text], .agg #[.bool x.Back, .int .i64 x.What.Who, .int .i64 x.What.No, .string x.What.Text]] w fun e w' => e = .returned (.bool true) ∧ Below w.heap.size w w' := by
  have HK1 := Lib.hid ((Mm.Blk.new w 94 [.bool x.Back, .int .i64 x.What.Who, .int .i64 x.What.No, .string x.What.Text]).alloc (.cells #[.bool x.Back, .int .i64 x.What.Who, .int .i64 x.What.No, .string x.What.Text] 94))
  have HK2 := Lib.hid (Mm.Blk.new' (w.alloc (.cells #[.bool x.Back, .int .i64 x.What.Who, .int .i64 x.What.No, .string x.What.Text] 94)) 94 [.bool x.Back, .int .i64 x.What.Who, .int .i64 x.What.No, .string x.What.Text] (Mm.sz1 _ _))
  have hb0 : Below w.heap.size w ((w.alloc (.cells #[.bool x.Back, .int .i64 x.What.Who, .int .i64 x.What.No, .string x.What.Text] 94)).alloc (.cells #[.bool x.Back, .int .i64 x.What.Who, .int .i64 x.What.No, .string x.What.Text] 94)) := below_new (below_new (Below.refl _ _) _) _
  have HB0 := Lib.hid hb0
  clear hb0
  go_enter Try.func104, Try.ntmps104
  go_wp2_with fail
  refine (eqTold_c x.What _).mono ?_
  rintro e w1 ⟨rfl, hb1⟩
  have HB1 := Lib.hid (below_step HB0.out hb1)
  have HK1 := Lib.hid (HK1.out.bel hb1)
  have HK2 := Lib.hid (HK2.out.bel hb1)
  clear hb1
  go_wp2
  go_ret
  exact ⟨rfl, HB1.out⟩
set_option maxHeartbeats 1000000 in
theorem eqNoteS_c (l : List Note) (A A' : Option Addr) (n n' c c' : Nat) (w : World) (B : Nat) (hl : Mm.SlAt rNote w B l A n c) (hl' : Mm.SlAt rNote w B l A' n' c') (hB : B ≤ w.heap.size) :
    Calls Try.prog 66 #[.slice A n c, .slice A' n' c'] w fun e w' => e = .returned (.bool true) ∧ Below w.heap.size w w' := by
  obtain rfl : n = n' := hl.1.symm.trans hl'.1
  have hn : n ≤ 9223372036854775807 := by have := hl.2.1; have := hl.2.2.1; unfold maxLen at this; omega
  have HL : Hid (Mm.SlAt rNote w B l A n c ∧ Mm.SlAt rNote w B l A' n c') := ⟨hl, hl'⟩
  clear hl hl'
  go_enter Try.func66, Try.ntmps66
  go_wp2
  go_loopw [5] (fun i wr => ∃ k : Nat, k ≤ n ∧ i = .int .i64 k ∧ Below w.heap.size w wr) (fun i _ => n - (intOf i).toNat)
  case atStart => exact ⟨0, Nat.zero_le _, rfl, Below.refl _ _⟩
  case round =>
    obtain ⟨k, hk, rfl, hbel⟩ := hrel
    rename_i wr _
    by_cases hlt : k < n
    · obtain ⟨x, b, off, hx, rfl, hb, uf0, uf1, uf2, uc0, uc1, uc2, uc3⟩ := rNote_get (HL.out.1.keep (w' := wr) (fun b hb => hbel.block b (by omega))) hlt
      obtain ⟨y, b', off', hy, rfl, hb', vf0, vf1, vf2, vc0, vc1, vc2, vc3⟩ := rNote_get (HL.out.2.keep (w' := wr) (fun b hb => hbel.block b (by omega))) hlt
      obtain rfl : x = y := by rw [hx] at hy; injection hy
      have hBw : B ≤ wr.heap.size := Nat.le_trans hB hbel.size
      clear hx hy uf0 uf1 uf2 vf0 vf1 vf2
      go_wp2
      refine wp_region_und (by kernel_rfl) (by kernel_rfl) ?_
      repeat (go_big_quiet_step ((first | (go_at_call 104; exact und_call _ (eqNote_c x _)))))
      refine wpQuiet_nil ?_
      intro X hX
      go_wp2
      go_roundw
      case rel => exact ⟨k + 1, by omega, by go_num, below_step hbel hX⟩
      case measure => simp [intOf]; omega
    · go_wp2
      go_ret
      exact ⟨rfl, hbel⟩
set_option maxHeartbeats 1000000 in
theorem eqTellStep_c (x : TellStep)  (w : World) :
    Calls Try.prog 68 #[.agg #[.int .i64 x.Kind, .int .i64 x.K, .string x.Text], .agg #[.int .i64 x.Kind, .int .i64 x.K, .string x.Text]] w fun e w' => e = .returned (.bool true) ∧ Below w.heap.size w w' := by
  go_enter Try.func68, Try.ntmps68
  go_wp2
  go_ret
  exact ⟨rfl, below_new (below_new (Below.refl _ _) _) _⟩
set_option maxHeartbeats 1000000 in
theorem eqTellStepS_c (l : List TellStep) (A A' : Option Addr) (n n' c c' : Nat) (w : World) (B : Nat) (hl : Mm.SlAt rTellStep w B l A n c) (hl' : Mm.SlAt rTellStep w B l A' n' c') (hB : B ≤ w.heap.size) :
    Calls Try.prog 35 #[.slice A n c, .slice A' n' c'] w fun e w' => e = .returned (.bool true) ∧ Below w.heap.size w w' := by
  obtain rfl : n = n' := hl.1.symm.trans hl'.1
  have hn : n ≤ 9223372036854775807 := by have := hl.2.1; have := hl.2.2.1; unfold maxLen at this; omega
  have HL : Hid (Mm.SlAt rTellStep w B l A n c ∧ Mm.SlAt rTellStep w B l A' n c') := ⟨hl, hl'⟩
  clear hl hl'
  go_enter Try.func35, Try.ntmps35
  go_wp2
  go_loopw [5] (fun i wr => ∃ k : Nat, k ≤ n ∧ i = .int .i64 k ∧ Below w.heap.size w wr) (fun i _ => n - (intOf i).toNat)
  case atStart => exact ⟨0, Nat.zero_le _, rfl, Below.refl _ _⟩
  case round =>
    obtain ⟨k, hk, rfl, hbel⟩ := hrel
    rename_i wr _
    by_cases hlt : k < n
    · obtain ⟨x, b, off, hx, rfl, hb, uf0, uf1, uf2, uc0, uc1, uc2⟩ := rTellStep_get (HL.out.1.keep (w' := wr) (fun b hb => hbel.block b (by omega))) hlt
      obtain ⟨y, b', off', hy, rfl, hb', vf0, vf1, vf2, vc0, vc1, vc2⟩ := rTellStep_get (HL.out.2.keep (w' := wr) (fun b hb => hbel.block b (by omega))) hlt
      obtain rfl : x = y := by rw [hx] at hy; injection hy
      have hBw : B ≤ wr.heap.size := Nat.le_trans hB hbel.size
      clear hx hy uf0 uf1 uf2 vf0 vf1 vf2
      go_wp2
      refine wp_region_und (by kernel_rfl) (by kernel_rfl) ?_
      repeat (go_big_quiet_step ((first | (go_at_call 68; exact und_call _ (eqTellStep_c x _)))))
      refine wpQuiet_nil ?_
      intro X hX
      go_wp2
      go_roundw
      case rel => exact ⟨k + 1, by omega, by go_num, below_step hbel hX⟩
      case measure => simp [intOf]; omega
    · go_wp2
      go_ret
      exact ⟨rfl, hbel⟩
set_option maxHeartbeats 1000000 in
theorem eqTell_c (x : Tell) (A0 : Option Addr) (n0 c0 : Nat) (A1 : Option Addr) (n1 c1 : Nat) (A2 : Option Addr) (n2 c2 : Nat) (A3 : Option Addr) (n3 c3 : Nat) (A4 : Option Addr) (n4 c4 : Nat) (A0' : Option Addr) (n0' c0' : Nat) (A1' : Option Addr) (n1' c1' : Nat) (A2' : Option Addr) (n2' c2' : Nat) (A3' : Option Addr) (n3' c3' : Nat) (A4' : Option Addr) (n4' c4' : Nat) (w : World) (B : Nat) (g0 : Mm.SlAt strs w B x.Texts A0 n0 c0) (g0' : Mm.SlAt strs w B x.Texts A0' n0' c0') (g1 : Mm.SlAt Mm.int w B x.Heard A1 n1 c1) (g1' : Mm.SlAt Mm.int w B x.Heard A1' n1' c1') (g2 : Mm.SlAt rNote w B x.Line A2 n2 c2) (g2' : Mm.SlAt rNote w B x.Line A2' n2' c2') (g3 : Mm.SlAt rTold w B x.Log A3 n3 c3) (g3' : Mm.SlAt rTold w B x.Log A3' n3' c3') (g4 : Mm.SlAt Mm.int w B x.Next A4 n4 c4) (g4' : Mm.SlAt Mm.int w B x.Next A4' n4' c4') (hB : B ≤ w.heap.size) :
    Calls Try.prog 33 #[.agg #[.slice A0 n0 c0, .slice A1 n1 c1, .slice A2 n2 c2, .slice A3 n3 c3, .slice A4 n4 c4], .agg #[.slice A0' n0' c0', .slice A1' n1' c1', .slice A2' n2' c2', .slice A3' n3' c3', .slice A4' n4' c4']] w fun e w' => e = .returned (.bool true) ∧ Below w.heap.size w w' := by
  have HK1 := Lib.hid ((Mm.Blk.new w 31 [.slice A0 n0 c0, .slice A1 n1 c1, .slice A2 n2 c2, .slice A3 n3 c3, .slice A4 n4 c4]).alloc (.cells #[.slice A0' n0' c0', .slice A1' n1' c1', .slice A2' n2' c2', .slice A3' n3' c3', .slice A4' n4' c4'] 31))
  have HK2 := Lib.hid (Mm.Blk.new' (w.alloc (.cells #[.slice A0 n0 c0, .slice A1 n1 c1, .slice A2 n2 c2, .slice A3 n3 c3, .slice A4 n4 c4] 31)) 31 [.slice A0' n0' c0', .slice A1' n1' c1', .slice A2' n2' c2', .slice A3' n3' c3', .slice A4' n4' c4'] (Mm.sz1 _ _))
  have hb0 : Below w.heap.size w ((w.alloc (.cells #[.slice A0 n0 c0, .slice A1 n1 c1, .slice A2 n2 c2, .slice A3 n3 c3, .slice A4 n4 c4] 31)).alloc (.cells #[.slice A0' n0' c0', .slice A1' n1' c1', .slice A2' n2' c2', .slice A3' n3' c3', .slice A4' n4' c4'] 31)) := below_new (below_new (Below.refl _ _) _) _
  have HB0 := Lib.hid hb0
  have HG := Lib.hid (And.intro hB (And.intro (And.intro g0 g0') (And.intro (And.intro g1 g1') (And.intro (And.intro g2 g2') (And.intro (And.intro g3 g3') (And.intro g4 g4'))))))
  clear hB g0 g0' g1 g1' g2 g2' g3 g3' g4 g4'
  clear hb0
  go_enter Try.func33, Try.ntmps33
  go_wp2_with fail
  refine (eqStringSS_c x.Texts _ _ _ _ _ _ _ B (HG.out.2.1.1.keep fun b hb => HB0.out.block b (Nat.lt_of_lt_of_le hb HG.out.1)) (HG.out.2.1.2.keep fun b hb => HB0.out.block b (Nat.lt_of_lt_of_le hb HG.out.1)) (Nat.le_trans HG.out.1 HB0.out.size)).mono ?_
  rintro e w1 ⟨rfl, hb1⟩
  have HB1 := Lib.hid (below_step HB0.out hb1)
  have HK1 := Lib.hid (HK1.out.bel hb1)
  have HK2 := Lib.hid (HK2.out.bel hb1)
  have p1_1 := HK1.out.cell (i := 1) rfl
  have q1_1 := HK2.out.cell (i := 1) rfl
  have p1_2 := HK1.out.cell (i := 2) rfl
  have q1_2 := HK2.out.cell (i := 2) rfl
  have p1_3 := HK1.out.cell (i := 3) rfl
  have q1_3 := HK2.out.cell (i := 3) rfl
  have p1_4 := HK1.out.cell (i := 4) rfl
  have q1_4 := HK2.out.cell (i := 4) rfl
  clear hb1
  go_wp2_with fail
  refine (eqIntS_c x.Heard _ _ _ _ _ _ _ B (HG.out.2.2.1.1.keep fun b hb => HB1.out.block b (Nat.lt_of_lt_of_le hb HG.out.1)) (HG.out.2.2.1.2.keep fun b hb => HB1.out.block b (Nat.lt_of_lt_of_le hb HG.out.1)) (Nat.le_trans HG.out.1 HB1.out.size)).mono ?_
  rintro e w2 ⟨rfl, hb2⟩
  have HB2 := Lib.hid (below_step HB1.out hb2)
  have HK1 := Lib.hid (HK1.out.bel hb2)
  have HK2 := Lib.hid (HK2.out.bel hb2)
  have p2_2 := HK1.out.cell (i := 2) rfl
  have q2_2 := HK2.out.cell (i := 2) rfl
  have p2_3 := HK1.out.cell (i := 3) rfl
  have q2_3 := HK2.out.cell (i := 3) rfl
  have p2_4 := HK1.out.cell (i := 4) rfl
  have q2_4 := HK2.out.cell (i := 4) rfl
  clear hb2
  go_wp2_with fail
  refine (eqNoteS_c x.Line _ _ _ _ _ _ _ B (HG.out.2.2.2.1.1.keep fun b hb => HB2.out.block b (Nat.lt_of_lt_of_le hb HG.out.1)) (HG.out.2.2.2.1.2.keep fun b hb => HB2.out.block b (Nat.lt_of_lt_of_le hb HG.out.1)) (Nat.le_trans HG.out.1 HB2.out.size)).mono ?_
  rintro e w3 ⟨rfl, hb3⟩
  have HB3 := Lib.hid (below_step HB2.out hb3)
  have HK1 := Lib.hid (HK1.out.bel hb3)
  have HK2 := Lib.hid (HK2.out.bel hb3)
  have p3_3 := HK1.out.cell (i := 3) rfl
  have q3_3 := HK2.out.cell (i := 3) rfl
  have p3_4 := HK1.out.cell (i := 4) rfl
  have q3_4 := HK2.out.cell (i := 4) rfl
  clear hb3
  go_wp2_with fail
  refine (eqToldS_c x.Log _ _ _ _ _ _ _ B (HG.out.2.2.2.2.1.1.keep fun b hb => HB3.out.block b (Nat.lt_of_lt_of_le hb HG.out.1)) (HG.out.2.2.2.2.1.2.keep fun b hb => HB3.out.block b (Nat.lt_of_lt_of_le hb HG.out.1)) (Nat.le_trans HG.out.1 HB3.out.size)).mono ?_
  rintro e w4 ⟨rfl, hb4⟩
  have HB4 := Lib.hid (below_step HB3.out hb4)
  have HK1 := Lib.hid (HK1.out.bel hb4)
  have HK2 := Lib.hid (HK2.out.bel hb4)
  have p4_4 := HK1.out.cell (i := 4) rfl
  have q4_4 := HK2.out.cell (i := 4) rfl
  clear hb4
  go_wp2_with fail
  refine (eqIntS_c x.Next _ _ _ _ _ _ _ B (HG.out.2.2.2.2.2.1.keep fun b hb => HB4.out.block b (Nat.lt_of_lt_of_le hb HG.out.1)) (HG.out.2.2.2.2.2.2.keep fun b hb => HB4.out.block b (Nat.lt_of_lt_of_le hb HG.out.1)) (Nat.le_trans HG.out.1 HB4.out.size)).mono ?_
  rintro e w5 ⟨rfl, hb5⟩
  have HB5 := Lib.hid (below_step HB4.out hb5)
  have HK1 := Lib.hid (HK1.out.bel hb5)
  have HK2 := Lib.hid (HK2.out.bel hb5)
  clear hb5
  go_wp2
  go_ret
  exact ⟨rfl, HB5.out⟩
theorem eqTell_at (x : Tell) (cs cs' : List Value) (w : World) (B : Nat) (h : rTell.at_ w B x cs) (h' : rTell.at_ w B x cs') (hB : B ≤ w.heap.size) :
    Calls Try.prog 33 #[.agg cs.toArray, .agg cs'.toArray] w fun e w' => e = .returned (.bool true) ∧ Below w.heap.size w w' := by
  obtain ⟨A0, n0, c0, A1, n1, c1, A2, n2, c2, A3, n3, c3, A4, n4, c4, rfl, g0, g1, g2, g3, g4⟩ := rTell_at h
  obtain ⟨A0', n0', c0', A1', n1', c1', A2', n2', c2', A3', n3', c3', A4', n4', c4', rfl, k0, k1, k2, k3, k4⟩ := rTell_at h'
  exact eqTell_c x _ _ _ _ _ _ _ _ _ _ _ _ _ _ _ _ _ _ _ _ _ _ _ _ _ _ _ _ _ _ _ B g0 k0 g1 k1 g2 k2 g3 k3 g4 k4 hB
end Go.Proofs.Ytaepohocabealaa

/-
  The laws' own sizes of arguments. No conditions.
-/
namespace Go.Proofs.Ytaepohocabealaa
open Go.RowKit
attribute [local go_sem] und_cell
set_option maxHeartbeats 1000000 in
theorem szIntS_c (l : List Int) (A : Option Addr) (n c : Nat) (left : Int) (w : World) (B : Nat) (hl : Mm.SlAt Mm.int w B l A n c) (hB : B ≤ w.heap.size) (h0 : 0 ≤ left) (h1 : left ≤ 1048576) :
    Calls Try.prog 79 #[.slice A n c, .int .i64 left] w fun e w' => e = .returned (.int .i64 (Pl.szRet left (Pl.szl Pl.sz0 l))) ∧ Below w.heap.size w w' := by
  have hn : n ≤ 9223372036854775807 := by have := hl.2.1; have := hl.2.2.1; unfold maxLen at this; omega
  have hlen : Hid (l.length = n) := hl.1
  have HZ : Hid (Pl.szl Pl.sz0 l = (n : Int)) := by show _ = _; rw [Pl.szl_zero, hlen.out]
  clear hl
  by_cases h : left - (n : Int) < 0
  · go_enter Try.func79, Try.ntmps79
    go_wp2
    go_ret
    exact ⟨ret_int (by rw [HZ.out, Pl.szRet_lt (by omega)]), Below.refl _ _⟩
  · go_enter Try.func79, Try.ntmps79
    go_wp2
    go_ret
    exact ⟨ret_int (by rw [HZ.out, Pl.szRet_ge (by omega)]), Below.refl _ _⟩
set_option maxHeartbeats 1000000 in
theorem szStringS_c (l : List ByteArray) (A : Option Addr) (n c : Nat) (left : Int) (w : World) (B : Nat) (hl : Mm.SlAt Mm.str w B l A n c) (hB : B ≤ w.heap.size) (h0 : 0 ≤ left) (h1 : left ≤ 1048576) :
    Calls Try.prog 108 #[.slice A n c, .int .i64 left] w fun e w' => e = .returned (.int .i64 (Pl.szRet left (Pl.szl Pl.szStr l))) ∧ Below w.heap.size w w' := by
  have hn : n ≤ 9223372036854775807 := by have := hl.2.1; have := hl.2.2.1; unfold maxLen at this; omega
  have hlen : Hid (l.length = n) := hl.1
  have HL := Lib.hid hl
  have HZ : Hid (Pl.szl Pl.szStr l = (n : Int) + Pl.sumI Pl.szStr l) := by show _ = _; unfold Pl.szl; rw [hlen.out]
  have HN : Hid (∀ x : ByteArray, 0 ≤ Pl.szStr x) := Pl.szStr_nn
  have hs0 := Pl.sumI_nn HN.out l
  clear hl
  by_cases h : left - (n : Int) < 0
  · go_enter Try.func108, Try.ntmps108
    go_wp2
    go_ret
    exact ⟨ret_int (by rw [HZ.out, Pl.szRet_lt (by omega)]), Below.refl _ _⟩
  · go_enter Try.func108, Try.ntmps108
    go_wp2
    go_loopw [1, 5] (fun lf i wr => ∃ k : Nat, k ≤ n ∧ i = .int .i64 k ∧ (∃ s : Int, 0 ≤ s ∧ s ≤ left ∧ s = left - n - Pl.sumI Pl.szStr (l.take k) ∧ lf = .int .i64 s) ∧ Below w.heap.size w wr) (fun _ i _ => n - (intOf i).toNat)
    case atStart => exact ⟨0, Nat.zero_le _, rfl, ⟨_, by omega, by omega, by simp [Pl.sumI], rfl⟩, Below.refl _ _⟩
    case round =>
      obtain ⟨k, hk, rfl, ⟨s, hs1, hs2, hs3, rfl⟩, hbel⟩ := hrel
      rename_i wr _
      have HS := Lib.hid hs3
      clear hs3
      by_cases hlt : k < n
      · obtain ⟨x, b, off, hx, rfl, hb, f0, d0⟩ := str_get (HL.out.keep (w' := wr) (fun b hb => hbel.block b (by omega))) hlt
        have hBw : B ≤ wr.heap.size := Nat.le_trans hB hbel.size
        have hx0 := HN.out x
        have hsn : Pl.sumI Pl.szStr (l.take (k + 1)) = Pl.sumI Pl.szStr (l.take k) + Pl.szStr x := Pl.sumI_succ hx
        have hst := Pl.sumI_take HN.out l (k + 1)
        have HA := Lib.hid (And.intro hsn hst)
        clear hsn hst hx
        have hxe : Pl.szStr x = (x.size : Int) := rfl
        have HE := Lib.hid hxe
        unfold maxLen at f0
        clear hx0 hxe
        by_cases hneg : s - (x.size : Int) < 0
        · go_wp2
          go_ret
          exact ⟨ret_int (by rw [HZ.out, Pl.szRet_lt (by have := HA.out.1; have := HA.out.2; have := HS.out; have := HE.out; omega)]), hbel⟩
        · go_wp2
          go_roundw
          case rel => exact ⟨k + 1, by omega, by go_num, ⟨_, by omega, by omega, by have := HA.out.1; have := HS.out; have := HE.out; omega, rfl⟩, hbel⟩
          case measure => simp [intOf]; omega
      · have HK : Hid (l.take k = l) := List.take_of_length_le (by have := hlen.out; omega)
        go_wp2
        go_ret
        exact ⟨ret_int (by have := HS.out; rw [HK.out] at this; rw [HZ.out, Pl.szRet_ge (by omega)]; omega), hbel⟩
set_option maxHeartbeats 1000000 in
theorem szStringSS_c (l : List (List ByteArray)) (A : Option Addr) (n c : Nat) (left : Int) (w : World) (B : Nat) (hl : Mm.SlAt strs w B l A n c) (hB : B ≤ w.heap.size) (h0 : 0 ≤ left) (h1 : left ≤ 1048576) :
    Calls Try.prog 78 #[.slice A n c, .int .i64 left] w fun e w' => e = .returned (.int .i64 (Pl.szRet left (Pl.szl (Pl.szl Pl.szStr) l))) ∧ Below w.heap.size w w' := by
  have hn : n ≤ 9223372036854775807 := by have := hl.2.1; have := hl.2.2.1; unfold maxLen at this; omega
  have hlen : Hid (l.length = n) := hl.1
  have HL := Lib.hid hl
  have HZ : Hid (Pl.szl (Pl.szl Pl.szStr) l = (n : Int) + Pl.sumI (Pl.szl Pl.szStr) l) := by show _ = _; unfold Pl.szl; rw [hlen.out]
  have HN : Hid (∀ x : (List ByteArray), 0 ≤ (Pl.szl Pl.szStr) x) := Pl.szl_nn (f := Pl.szStr) (Pl.szStr_nn)
  have hs0 := Pl.sumI_nn HN.out l
  clear hl
  by_cases h : left - (n : Int) < 0
  · go_enter Try.func78, Try.ntmps78
    go_wp2
    go_ret
    exact ⟨ret_int (by rw [HZ.out, Pl.szRet_lt (by omega)]), Below.refl _ _⟩
  · go_enter Try.func78, Try.ntmps78
    go_wp2
    go_loopw [1, 5] (fun lf i wr => ∃ k : Nat, k ≤ n ∧ i = .int .i64 k ∧ (∃ s : Int, 0 ≤ s ∧ s ≤ left ∧ s = left - n - Pl.sumI (Pl.szl Pl.szStr) (l.take k) ∧ lf = .int .i64 s) ∧ Below w.heap.size w wr) (fun _ i _ => n - (intOf i).toNat)
    case atStart => exact ⟨0, Nat.zero_le _, rfl, ⟨_, by omega, by omega, by simp [Pl.sumI], rfl⟩, Below.refl _ _⟩
    case round =>
      obtain ⟨k, hk, rfl, ⟨s, hs1, hs2, hs3, rfl⟩, hbel⟩ := hrel
      rename_i wr _
      have HS := Lib.hid hs3
      clear hs3
      by_cases hlt : k < n
      · obtain ⟨x, b, off, P, p, q, hx, rfl, hb, f0, d0⟩ := strs_get (HL.out.keep (w' := wr) (fun b hb => hbel.block b (by omega))) hlt
        have hBw : B ≤ wr.heap.size := Nat.le_trans hB hbel.size
        have hx0 := HN.out x
        have hsn : Pl.sumI (Pl.szl Pl.szStr) (l.take (k + 1)) = Pl.sumI (Pl.szl Pl.szStr) (l.take k) + (Pl.szl Pl.szStr) x := Pl.sumI_succ hx
        have hst := Pl.sumI_take HN.out l (k + 1)
        have HA := Lib.hid (And.intro hsn hst)
        clear hsn hst hx
        have HF := Lib.hid f0
        clear f0
        by_cases hneg : s - (Pl.szl Pl.szStr) x < 0
        · go_wp2_with fail
          refine (szStringS_c x _ _ _ _ _ B HF.out hBw (by omega) (by omega)).mono ?_
          rintro e w1 ⟨rfl, hb1⟩
          rw [Pl.szRet_lt hneg]
          go_wp2
          go_ret
          exact ⟨ret_int (by rw [HZ.out, Pl.szRet_lt (by have := HA.out.1; have := HA.out.2; have := HS.out; omega)]), below_step hbel hb1⟩
        · go_wp2_with fail
          refine (szStringS_c x _ _ _ _ _ B HF.out hBw (by omega) (by omega)).mono ?_
          rintro e w1 ⟨rfl, hb1⟩
          rw [Pl.szRet_ge (by omega)]
          go_wp2
          go_roundw
          case rel => exact ⟨k + 1, by omega, by go_num, ⟨_, by omega, by omega, by have := HA.out.1; have := HS.out; omega, rfl⟩, below_step hbel hb1⟩
          case measure => simp [intOf]; omega
      · have HK : Hid (l.take k = l) := List.take_of_length_le (by have := hlen.out; omega)
        go_wp2
        go_ret
        exact ⟨ret_int (by have := HS.out; rw [HK.out] at this; rw [HZ.out, Pl.szRet_ge (by omega)]; omega), hbel⟩
set_option maxHeartbeats 1000000 in
theorem szTold_c (x : Told)  (left : Int) (w : World) (B : Nat) (s0 : x.Text.size ≤ maxLen) (hB : B ≤ w.heap.size) (h0 : 0 ≤ left) (h1 : left ≤ 1048576) :
    Calls Try.prog 110 #[.agg #[.int .i64 x.Who, .int .i64 x.No, .string x.Text], .int .i64 left] w fun e w' => e = .returned (.int .i64 (Pl.szRet left (Pl.szTold x))) ∧ Below w.heap.size w w' := by
  unfold maxLen at s0
  have HK := Lib.hid (Mm.Blk.new w 132 [.int .i64 x.Who, .int .i64 x.No, .string x.Text])
  have hb0 : Below w.heap.size w (w.alloc (.cells #[.int .i64 x.Who, .int .i64 x.No, .string x.Text] 132)) := below_new (Below.refl _ _) _
  have HB0 := Lib.hid hb0
  clear hb0
  have zn0 := Pl.szStr_nn x.Text
  have e0 : Pl.szStr x.Text = (x.Text.size : Int) := rfl
  have hz : Pl.szTold x = Pl.szStr x.Text := rfl
  have HZ := Lib.hid hz
  clear hz
  have E0 := Lib.hid e0
  clear e0
  by_cases t0 : left - Pl.szStr x.Text < 0
  · have t0' := t0
    rw [E0.out] at t0'
    go_enter Try.func110, Try.ntmps110
    go_wp2
    go_ret
    exact ⟨ret_int (by rw [HZ.out, Pl.szRet_lt (by omega)]), HB0.out⟩
  · have t0' := t0
    rw [E0.out] at t0'
    go_enter Try.func110, Try.ntmps110
    go_wp2
    go_ret
    exact ⟨ret_int (by have hh : Pl.szRet left (Pl.szTold x) = left - Pl.szTold x := Pl.szRet_ge (by rw [HZ.out]; omega); have h2 := HZ.out; have := E0.out; omega), HB0.out⟩
set_option maxHeartbeats 1000000 in
theorem szToldS_c (l : List Told) (A : Option Addr) (n c : Nat) (left : Int) (w : World) (B : Nat) (hl : Mm.SlAt rTold w B l A n c) (hB : B ≤ w.heap.size) (h0 : 0 ≤ left) (h1 : left ≤ 1048576) :
    Calls Try.prog 81 #[.slice A n c, .int .i64 left] w fun e w' => e = .returned (.int .i64 (Pl.szRet left (Pl.szl Pl.szTold l))) ∧ Below w.heap.size w w' := by
  have hn : n ≤ 9223372036854775807 := by have := hl.2.1; have := hl.2.2.1; unfold maxLen at this; omega
  have hlen : Hid (l.length = n) := hl.1
  have HL := Lib.hid hl
  have HZ : Hid (Pl.szl Pl.szTold l = (n : Int) + Pl.sumI Pl.szTold l) := by show _ = _; unfold Pl.szl; rw [hlen.out]
  have HN : Hid (∀ x : Told, 0 ≤ Pl.szTold x) := Pl.szTold_nn
  have hs0 := Pl.sumI_nn HN.out l
  clear hl
  by_cases h : left - (n : Int) < 0
  · go_enter Try.func81, Try.ntmps81
    go_wp2
    go_ret
    exact ⟨ret_int (by rw [HZ.out, Pl.szRet_lt (by omega)]), Below.refl _ _⟩
  · go_enter Try.func81, Try.ntmps81
    go_wp2
    go_loopw [1, 5] (fun lf i wr => ∃ k : Nat, k ≤ n ∧ i = .int .i64 k ∧ (∃ s : Int, 0 ≤ s ∧ s ≤ left ∧ s = left - n - Pl.sumI Pl.szTold (l.take k) ∧ lf = .int .i64 s) ∧ Below w.heap.size w wr) (fun _ i _ => n - (intOf i).toNat)
    case atStart => exact ⟨0, Nat.zero_le _, rfl, ⟨_, by omega, by omega, by simp [Pl.sumI], rfl⟩, Below.refl _ _⟩
    case round =>
      obtain ⟨k, hk, rfl, ⟨s, hs1, hs2, hs3, rfl⟩, hbel⟩ := hrel
      rename_i wr _
      have HS := Lib.hid hs3
      clear hs3
      by_cases hlt : k < n
      · obtain ⟨x, b, off, hx, rfl, hb, f0, f1, f2, d0, d1, d2⟩ := rTold_get (HL.out.keep (w' := wr) (fun b hb => hbel.block b (by omega))) hlt
        have hBw : B ≤ wr.heap.size := Nat.le_trans hB hbel.size
        have hx0 := HN.out x
        have hsn : Pl.sumI Pl.szTold (l.take (k + 1)) = Pl.sumI Pl.szTold (l.take k) + Pl.szTold x := Pl.sumI_succ hx
        have hst := Pl.sumI_take HN.out l (k + 1)
        have HA := Lib.hid (And.intro hsn hst)
        clear hsn hst hx
        have HF := Lib.hid f2
        clear f0 f1 f2
        by_cases hneg : s - Pl.szTold x < 0
        · go_wp2_with fail
          refine (szTold_c x _ _ B HF.out hBw (by omega) (by omega)).mono ?_
          rintro e w1 ⟨rfl, hb1⟩
          rw [Pl.szRet_lt hneg]
          go_wp2
          go_ret
          exact ⟨ret_int (by rw [HZ.out, Pl.szRet_lt (by have := HA.out.1; have := HA.out.2; have := HS.out; omega)]), below_step hbel hb1⟩
        · go_wp2_with fail
          refine (szTold_c x _ _ B HF.out hBw (by omega) (by omega)).mono ?_
          rintro e w1 ⟨rfl, hb1⟩
          rw [Pl.szRet_ge (by omega)]
          go_wp2
          go_roundw
          case rel => exact ⟨k + 1, by omega, by go_num, ⟨_, by omega, by omega, by have := HA.out.1; have := HS.out; omega, rfl⟩, below_step hbel hb1⟩
          case measure => simp [intOf]; omega
      · have HK : Hid (l.take k = l) := List.take_of_length_le (by have := hlen.out; omega)
        go_wp2
        go_ret
        exact ⟨ret_int (by have := HS.out; rw [HK.out] at this; rw [HZ.out, Pl.szRet_ge (by omega)]; omega), hbel⟩
set_option maxHeartbeats 1000000 in
theorem szNote_c (x : Note)  (left : Int) (w : World) (B : Nat) (s0 : x.What.Text.size ≤ maxLen) (hB : B ≤ w.heap.size) (h0 : 0 ≤ left) (h1 : left ≤ 1048576) :
    Calls Try.prog 109 #[.agg #[.bool x.Back, .int .i64 x.What.Who, .int .i64 x.What.No, .string x.What.Text], .int .i64 left] w fun e w' => e = .returned (.int .i64 (Pl.szRet left (Pl.szNote x))) ∧ Below w.heap.size w w' := by
  unfold maxLen at s0
  have HK := Lib.hid (Mm.Blk.new w 134 [.bool x.Back, .int .i64 x.What.Who, .int .i64 x.What.No, .string x.What.Text])
  have hb0 : Below w.heap.size w (w.alloc (.cells #[.bool x.Back, .int .i64 x.What.Who, .int .i64 x.What.No, .string x.What.Text] 134)) := below_new (Below.refl _ _) _
  have HB0 := Lib.hid hb0
  clear hb0
  have zn0 := Pl.szTold_nn x.What
  have hz : Pl.szNote x = Pl.szTold x.What := rfl
  have HZ := Lib.hid hz
  clear hz
  by_cases t0 : left - Pl.szTold x.What < 0
  · go_enter Try.func109, Try.ntmps109
    go_wp2_with fail
    refine (szTold_c x.What _ _ (_) (by unfold maxLen; omega) (Nat.le_refl _) (by omega) (by omega)).mono ?_
    rintro e w1 ⟨rfl, hb1⟩
    rw [Pl.szRet_lt (by omega)]
    have HB1 := Lib.hid (below_step HB0.out hb1)
    have HK := Lib.hid (HK.out.bel hb1)
    clear hb1
    go_wp2
    go_ret
    exact ⟨ret_int (by rw [HZ.out, Pl.szRet_lt (by omega)]), HB1.out⟩
  · go_enter Try.func109, Try.ntmps109
    go_wp2_with fail
    refine (szTold_c x.What _ _ (_) (by unfold maxLen; omega) (Nat.le_refl _) (by omega) (by omega)).mono ?_
    rintro e w1 ⟨rfl, hb1⟩
    rw [Pl.szRet_ge (by omega)]
    have HB1 := Lib.hid (below_step HB0.out hb1)
    have HK := Lib.hid (HK.out.bel hb1)
    clear hb1
    go_wp2
    go_ret
    exact ⟨ret_int (by have hh : Pl.szRet left (Pl.szNote x) = left - Pl.szNote x := Pl.szRet_ge (by rw [HZ.out]; omega); have h2 := HZ.out; omega), HB1.out⟩
set_option maxHeartbeats 1000000 in
theorem szNoteS_c (l : List Note) (A : Option Addr) (n c : Nat) (left : Int) (w : World) (B : Nat) (hl : Mm.SlAt rNote w B l A n c) (hB : B ≤ w.heap.size) (h0 : 0 ≤ left) (h1 : left ≤ 1048576) :
    Calls Try.prog 80 #[.slice A n c, .int .i64 left] w fun e w' => e = .returned (.int .i64 (Pl.szRet left (Pl.szl Pl.szNote l))) ∧ Below w.heap.size w w' := by
  have hn : n ≤ 9223372036854775807 := by have := hl.2.1; have := hl.2.2.1; unfold maxLen at this; omega
  have hlen : Hid (l.length = n) := hl.1
  have HL := Lib.hid hl
  have HZ : Hid (Pl.szl Pl.szNote l = (n : Int) + Pl.sumI Pl.szNote l) := by show _ = _; unfold Pl.szl; rw [hlen.out]
  have HN : Hid (∀ x : Note, 0 ≤ Pl.szNote x) := Pl.szNote_nn
  have hs0 := Pl.sumI_nn HN.out l
  clear hl
  by_cases h : left - (n : Int) < 0
  · go_enter Try.func80, Try.ntmps80
    go_wp2
    go_ret
    exact ⟨ret_int (by rw [HZ.out, Pl.szRet_lt (by omega)]), Below.refl _ _⟩
  · go_enter Try.func80, Try.ntmps80
    go_wp2
    go_loopw [1, 5] (fun lf i wr => ∃ k : Nat, k ≤ n ∧ i = .int .i64 k ∧ (∃ s : Int, 0 ≤ s ∧ s ≤ left ∧ s = left - n - Pl.sumI Pl.szNote (l.take k) ∧ lf = .int .i64 s) ∧ Below w.heap.size w wr) (fun _ i _ => n - (intOf i).toNat)
    case atStart => exact ⟨0, Nat.zero_le _, rfl, ⟨_, by omega, by omega, by simp [Pl.sumI], rfl⟩, Below.refl _ _⟩
    case round =>
      obtain ⟨k, hk, rfl, ⟨s, hs1, hs2, hs3, rfl⟩, hbel⟩ := hrel
      rename_i wr _
      have HS := Lib.hid hs3
      clear hs3
      by_cases hlt : k < n
      · obtain ⟨x, b, off, hx, rfl, hb, f0, f1, f2, d0, d1, d2, d3⟩ := rNote_get (HL.out.keep (w' := wr) (fun b hb => hbel.block b (by omega))) hlt
        have hBw : B ≤ wr.heap.size := Nat.le_trans hB hbel.size
        have hx0 := HN.out x
        have hsn : Pl.sumI Pl.szNote (l.take (k + 1)) = Pl.sumI Pl.szNote (l.take k) + Pl.szNote x := Pl.sumI_succ hx
        have hst := Pl.sumI_take HN.out l (k + 1)
        have HA := Lib.hid (And.intro hsn hst)
        clear hsn hst hx
        have HF := Lib.hid f2
        clear f0 f1 f2
        by_cases hneg : s - Pl.szNote x < 0
        · go_wp2_with fail
          refine (szNote_c x _ _ B HF.out hBw (by omega) (by omega)).mono ?_
          rintro e w1 ⟨rfl, hb1⟩
          rw [Pl.szRet_lt hneg]
          go_wp2
          go_ret
          exact ⟨ret_int (by rw [HZ.out, Pl.szRet_lt (by have := HA.out.1; have := HA.out.2; have := HS.out; omega)]), below_step hbel hb1⟩
        · go_wp2_with fail
          refine (szNote_c x _ _ B HF.out hBw (by omega) (by omega)).mono ?_
          rintro e w1 ⟨rfl, hb1⟩
          rw [Pl.szRet_ge (by omega)]
          go_wp2
          go_roundw
          case rel => exact ⟨k + 1, by omega, by go_num, ⟨_, by omega, by omega, by have := HA.out.1; have := HS.out; omega, rfl⟩, below_step hbel hb1⟩
          case measure => simp [intOf]; omega
      · have HK : Hid (l.take k = l) := List.take_of_length_le (by have := hlen.out; omega)
        go_wp2
        go_ret
        exact ⟨ret_int (by have := HS.out; rw [HK.out] at this; rw [HZ.out, Pl.szRet_ge (by omega)]; omega), hbel⟩
set_option maxHeartbeats 1000000 in
theorem szTellStep_c (x : TellStep)  (left : Int) (w : World) (B : Nat) (s0 : x.Text.size ≤ maxLen) (hB : B ≤ w.heap.size) (h0 : 0 ≤ left) (h1 : left ≤ 1048576) :
    Calls Try.prog 43 #[.agg #[.int .i64 x.Kind, .int .i64 x.K, .string x.Text], .int .i64 left] w fun e w' => e = .returned (.int .i64 (Pl.szRet left (Pl.szTellStep x))) ∧ Below w.heap.size w w' := by
  unfold maxLen at s0
  have HK := Lib.hid (Mm.Blk.new w 78 [.int .i64 x.Kind, .int .i64 x.K, .string x.Text])
  have hb0 : Below w.heap.size w (w.alloc (.cells #[.int .i64 x.Kind, .int .i64 x.K, .string x.Text] 78)) := below_new (Below.refl _ _) _
  have HB0 := Lib.hid hb0
  clear hb0
  have zn0 := Pl.szStr_nn x.Text
  have e0 : Pl.szStr x.Text = (x.Text.size : Int) := rfl
  have hz : Pl.szTellStep x = Pl.szStr x.Text := rfl
  have HZ := Lib.hid hz
  clear hz
  have E0 := Lib.hid e0
  clear e0
  by_cases t0 : left - Pl.szStr x.Text < 0
  · have t0' := t0
    rw [E0.out] at t0'
    go_enter Try.func43, Try.ntmps43
    go_wp2
    go_ret
    exact ⟨ret_int (by rw [HZ.out, Pl.szRet_lt (by omega)]), HB0.out⟩
  · have t0' := t0
    rw [E0.out] at t0'
    go_enter Try.func43, Try.ntmps43
    go_wp2
    go_ret
    exact ⟨ret_int (by have hh : Pl.szRet left (Pl.szTellStep x) = left - Pl.szTellStep x := Pl.szRet_ge (by rw [HZ.out]; omega); have h2 := HZ.out; have := E0.out; omega), HB0.out⟩
set_option maxHeartbeats 1000000 in
theorem szTellStepS_c (l : List TellStep) (A : Option Addr) (n c : Nat) (left : Int) (w : World) (B : Nat) (hl : Mm.SlAt rTellStep w B l A n c) (hB : B ≤ w.heap.size) (h0 : 0 ≤ left) (h1 : left ≤ 1048576) :
    Calls Try.prog 31 #[.slice A n c, .int .i64 left] w fun e w' => e = .returned (.int .i64 (Pl.szRet left (Pl.szl Pl.szTellStep l))) ∧ Below w.heap.size w w' := by
  have hn : n ≤ 9223372036854775807 := by have := hl.2.1; have := hl.2.2.1; unfold maxLen at this; omega
  have hlen : Hid (l.length = n) := hl.1
  have HL := Lib.hid hl
  have HZ : Hid (Pl.szl Pl.szTellStep l = (n : Int) + Pl.sumI Pl.szTellStep l) := by show _ = _; unfold Pl.szl; rw [hlen.out]
  have HN : Hid (∀ x : TellStep, 0 ≤ Pl.szTellStep x) := Pl.szTellStep_nn
  have hs0 := Pl.sumI_nn HN.out l
  clear hl
  by_cases h : left - (n : Int) < 0
  · go_enter Try.func31, Try.ntmps31
    go_wp2
    go_ret
    exact ⟨ret_int (by rw [HZ.out, Pl.szRet_lt (by omega)]), Below.refl _ _⟩
  · go_enter Try.func31, Try.ntmps31
    go_wp2
    go_loopw [1, 5] (fun lf i wr => ∃ k : Nat, k ≤ n ∧ i = .int .i64 k ∧ (∃ s : Int, 0 ≤ s ∧ s ≤ left ∧ s = left - n - Pl.sumI Pl.szTellStep (l.take k) ∧ lf = .int .i64 s) ∧ Below w.heap.size w wr) (fun _ i _ => n - (intOf i).toNat)
    case atStart => exact ⟨0, Nat.zero_le _, rfl, ⟨_, by omega, by omega, by simp [Pl.sumI], rfl⟩, Below.refl _ _⟩
    case round =>
      obtain ⟨k, hk, rfl, ⟨s, hs1, hs2, hs3, rfl⟩, hbel⟩ := hrel
      rename_i wr _
      have HS := Lib.hid hs3
      clear hs3
      by_cases hlt : k < n
      · obtain ⟨x, b, off, hx, rfl, hb, f0, f1, f2, d0, d1, d2⟩ := rTellStep_get (HL.out.keep (w' := wr) (fun b hb => hbel.block b (by omega))) hlt
        have hBw : B ≤ wr.heap.size := Nat.le_trans hB hbel.size
        have hx0 := HN.out x
        have hsn : Pl.sumI Pl.szTellStep (l.take (k + 1)) = Pl.sumI Pl.szTellStep (l.take k) + Pl.szTellStep x := Pl.sumI_succ hx
        have hst := Pl.sumI_take HN.out l (k + 1)
        have HA := Lib.hid (And.intro hsn hst)
        clear hsn hst hx
        have HF := Lib.hid f2
        clear f0 f1 f2
        by_cases hneg : s - Pl.szTellStep x < 0
        · go_wp2_with fail
          refine (szTellStep_c x _ _ B HF.out hBw (by omega) (by omega)).mono ?_
          rintro e w1 ⟨rfl, hb1⟩
          rw [Pl.szRet_lt hneg]
          go_wp2
          go_ret
          exact ⟨ret_int (by rw [HZ.out, Pl.szRet_lt (by have := HA.out.1; have := HA.out.2; have := HS.out; omega)]), below_step hbel hb1⟩
        · go_wp2_with fail
          refine (szTellStep_c x _ _ B HF.out hBw (by omega) (by omega)).mono ?_
          rintro e w1 ⟨rfl, hb1⟩
          rw [Pl.szRet_ge (by omega)]
          go_wp2
          go_roundw
          case rel => exact ⟨k + 1, by omega, by go_num, ⟨_, by omega, by omega, by have := HA.out.1; have := HS.out; omega, rfl⟩, below_step hbel hb1⟩
          case measure => simp [intOf]; omega
      · have HK : Hid (l.take k = l) := List.take_of_length_le (by have := hlen.out; omega)
        go_wp2
        go_ret
        exact ⟨ret_int (by have := HS.out; rw [HK.out] at this; rw [HZ.out, Pl.szRet_ge (by omega)]; omega), hbel⟩
set_option maxHeartbeats 1000000 in
theorem szTell_c (x : Tell) (A0 : Option Addr) (n0 c0 : Nat) (A1 : Option Addr) (n1 c1 : Nat) (A2 : Option Addr) (n2 c2 : Nat) (A3 : Option Addr) (n3 c3 : Nat) (A4 : Option Addr) (n4 c4 : Nat) (left : Int) (w : World) (B : Nat) (g0 : Mm.SlAt strs w B x.Texts A0 n0 c0) (g1 : Mm.SlAt Mm.int w B x.Heard A1 n1 c1) (g2 : Mm.SlAt rNote w B x.Line A2 n2 c2) (g3 : Mm.SlAt rTold w B x.Log A3 n3 c3) (g4 : Mm.SlAt Mm.int w B x.Next A4 n4 c4) (hB : B ≤ w.heap.size) (h0 : 0 ≤ left) (h1 : left ≤ 1048576) :
    Calls Try.prog 41 #[.agg #[.slice A0 n0 c0, .slice A1 n1 c1, .slice A2 n2 c2, .slice A3 n3 c3, .slice A4 n4 c4], .int .i64 left] w fun e w' => e = .returned (.int .i64 (Pl.szRet left (Pl.szTell x))) ∧ Below w.heap.size w w' := by
  have HK := Lib.hid (Mm.Blk.new w 74 [.slice A0 n0 c0, .slice A1 n1 c1, .slice A2 n2 c2, .slice A3 n3 c3, .slice A4 n4 c4])
  have hb0 : Below w.heap.size w (w.alloc (.cells #[.slice A0 n0 c0, .slice A1 n1 c1, .slice A2 n2 c2, .slice A3 n3 c3, .slice A4 n4 c4] 74)) := below_new (Below.refl _ _) _
  have HB0 := Lib.hid hb0
  clear hb0
  have HG := Lib.hid (And.intro hB (And.intro g0 (And.intro g1 (And.intro g2 (And.intro g3 g4)))))
  clear g0 g1 g2 g3 g4
  have zn0 := Pl.szl_nn (f := (Pl.szl Pl.szStr)) (Pl.szl_nn (f := Pl.szStr) (Pl.szStr_nn)) x.Texts
  have zn1 := Pl.szl_nn (f := Pl.sz0) (Pl.sz0_nn) x.Heard
  have zn2 := Pl.szl_nn (f := Pl.szNote) (Pl.szNote_nn) x.Line
  have zn3 := Pl.szl_nn (f := Pl.szTold) (Pl.szTold_nn) x.Log
  have zn4 := Pl.szl_nn (f := Pl.sz0) (Pl.sz0_nn) x.Next
  have hz : Pl.szTell x = (Pl.szl (Pl.szl Pl.szStr)) x.Texts + (Pl.szl Pl.sz0) x.Heard + (Pl.szl Pl.szNote) x.Line + (Pl.szl Pl.szTold) x.Log + (Pl.szl Pl.sz0) x.Next := rfl
  have HZ := Lib.hid hz
  clear hz
  by_cases t0 : left - (Pl.szl (Pl.szl Pl.szStr)) x.Texts < 0
  · go_enter Try.func41, Try.ntmps41
    go_wp2_with fail
    refine (szStringSS_c x.Texts _ _ _ _ _ B (HG.out.2.1.keep fun b hb => HB0.out.block b (Nat.lt_of_lt_of_le hb HG.out.1)) (Nat.le_trans HG.out.1 HB0.out.size) (by omega) (by omega)).mono ?_
    rintro e w1 ⟨rfl, hb1⟩
    rw [Pl.szRet_lt (by omega)]
    have HB1 := Lib.hid (below_step HB0.out hb1)
    have HK := Lib.hid (HK.out.bel hb1)
    have p1_1 := HK.out.cell (i := 1) rfl
    have p1_2 := HK.out.cell (i := 2) rfl
    have p1_3 := HK.out.cell (i := 3) rfl
    have p1_4 := HK.out.cell (i := 4) rfl
    clear hb1
    go_wp2
    go_ret
    exact ⟨ret_int (by rw [HZ.out, Pl.szRet_lt (by omega)]), HB1.out⟩
  · skip
    by_cases t1 : left - (Pl.szl (Pl.szl Pl.szStr)) x.Texts - (Pl.szl Pl.sz0) x.Heard < 0
    · go_enter Try.func41, Try.ntmps41
      go_wp2_with fail
      refine (szStringSS_c x.Texts _ _ _ _ _ B (HG.out.2.1.keep fun b hb => HB0.out.block b (Nat.lt_of_lt_of_le hb HG.out.1)) (Nat.le_trans HG.out.1 HB0.out.size) (by omega) (by omega)).mono ?_
      rintro e w1 ⟨rfl, hb1⟩
      rw [Pl.szRet_ge (by omega)]
      have HB1 := Lib.hid (below_step HB0.out hb1)
      have HK := Lib.hid (HK.out.bel hb1)
      have p1_1 := HK.out.cell (i := 1) rfl
      have p1_2 := HK.out.cell (i := 2) rfl
      have p1_3 := HK.out.cell (i := 3) rfl
      have p1_4 := HK.out.cell (i := 4) rfl
      clear hb1
      go_wp2_with fail
      refine (szIntS_c x.Heard _ _ _ _ _ B (HG.out.2.2.1.keep fun b hb => HB1.out.block b (Nat.lt_of_lt_of_le hb HG.out.1)) (Nat.le_trans HG.out.1 HB1.out.size) (by omega) (by omega)).mono ?_
      rintro e w2 ⟨rfl, hb2⟩
      rw [Pl.szRet_lt (by omega)]
      have HB2 := Lib.hid (below_step HB1.out hb2)
      have HK := Lib.hid (HK.out.bel hb2)
      have p2_2 := HK.out.cell (i := 2) rfl
      have p2_3 := HK.out.cell (i := 3) rfl
      have p2_4 := HK.out.cell (i := 4) rfl
      clear hb2
      go_wp2
      go_ret
      exact ⟨ret_int (by rw [HZ.out, Pl.szRet_lt (by omega)]), HB2.out⟩
    · skip
      by_cases t2 : left - (Pl.szl (Pl.szl Pl.szStr)) x.Texts - (Pl.szl Pl.sz0) x.Heard - (Pl.szl Pl.szNote) x.Line < 0
      · go_enter Try.func41, Try.ntmps41
        go_wp2_with fail
        refine (szStringSS_c x.Texts _ _ _ _ _ B (HG.out.2.1.keep fun b hb => HB0.out.block b (Nat.lt_of_lt_of_le hb HG.out.1)) (Nat.le_trans HG.out.1 HB0.out.size) (by omega) (by omega)).mono ?_
        rintro e w1 ⟨rfl, hb1⟩
        rw [Pl.szRet_ge (by omega)]
        have HB1 := Lib.hid (below_step HB0.out hb1)
        have HK := Lib.hid (HK.out.bel hb1)
        have p1_1 := HK.out.cell (i := 1) rfl
        have p1_2 := HK.out.cell (i := 2) rfl
        have p1_3 := HK.out.cell (i := 3) rfl
        have p1_4 := HK.out.cell (i := 4) rfl
        clear hb1
        go_wp2_with fail
        refine (szIntS_c x.Heard _ _ _ _ _ B (HG.out.2.2.1.keep fun b hb => HB1.out.block b (Nat.lt_of_lt_of_le hb HG.out.1)) (Nat.le_trans HG.out.1 HB1.out.size) (by omega) (by omega)).mono ?_
        rintro e w2 ⟨rfl, hb2⟩
        rw [Pl.szRet_ge (by omega)]
        have HB2 := Lib.hid (below_step HB1.out hb2)
        have HK := Lib.hid (HK.out.bel hb2)
        have p2_2 := HK.out.cell (i := 2) rfl
        have p2_3 := HK.out.cell (i := 3) rfl
        have p2_4 := HK.out.cell (i := 4) rfl
        clear hb2
        go_wp2_with fail
        refine (szNoteS_c x.Line _ _ _ _ _ B (HG.out.2.2.2.1.keep fun b hb => HB2.out.block b (Nat.lt_of_lt_of_le hb HG.out.1)) (Nat.le_trans HG.out.1 HB2.out.size) (by omega) (by omega)).mono ?_
        rintro e w3 ⟨rfl, hb3⟩
        rw [Pl.szRet_lt (by omega)]
        have HB3 := Lib.hid (below_step HB2.out hb3)
        have HK := Lib.hid (HK.out.bel hb3)
        have p3_3 := HK.out.cell (i := 3) rfl
        have p3_4 := HK.out.cell (i := 4) rfl
        clear hb3
        go_wp2
        go_ret
        exact ⟨ret_int (by rw [HZ.out, Pl.szRet_lt (by omega)]), HB3.out⟩
      · skip
        by_cases t3 : left - (Pl.szl (Pl.szl Pl.szStr)) x.Texts - (Pl.szl Pl.sz0) x.Heard - (Pl.szl Pl.szNote) x.Line - (Pl.szl Pl.szTold) x.Log < 0
        · go_enter Try.func41, Try.ntmps41
          go_wp2_with fail
          refine (szStringSS_c x.Texts _ _ _ _ _ B (HG.out.2.1.keep fun b hb => HB0.out.block b (Nat.lt_of_lt_of_le hb HG.out.1)) (Nat.le_trans HG.out.1 HB0.out.size) (by omega) (by omega)).mono ?_
          rintro e w1 ⟨rfl, hb1⟩
          rw [Pl.szRet_ge (by omega)]
          have HB1 := Lib.hid (below_step HB0.out hb1)
          have HK := Lib.hid (HK.out.bel hb1)
          have p1_1 := HK.out.cell (i := 1) rfl
          have p1_2 := HK.out.cell (i := 2) rfl
          have p1_3 := HK.out.cell (i := 3) rfl
          have p1_4 := HK.out.cell (i := 4) rfl
          clear hb1
          go_wp2_with fail
          refine (szIntS_c x.Heard _ _ _ _ _ B (HG.out.2.2.1.keep fun b hb => HB1.out.block b (Nat.lt_of_lt_of_le hb HG.out.1)) (Nat.le_trans HG.out.1 HB1.out.size) (by omega) (by omega)).mono ?_
          rintro e w2 ⟨rfl, hb2⟩
          rw [Pl.szRet_ge (by omega)]
          have HB2 := Lib.hid (below_step HB1.out hb2)
          have HK := Lib.hid (HK.out.bel hb2)
          have p2_2 := HK.out.cell (i := 2) rfl
          have p2_3 := HK.out.cell (i := 3) rfl
          have p2_4 := HK.out.cell (i := 4) rfl
          clear hb2
          go_wp2_with fail
          refine (szNoteS_c x.Line _ _ _ _ _ B (HG.out.2.2.2.1.keep fun b hb => HB2.out.block b (Nat.lt_of_lt_of_le hb HG.out.1)) (Nat.le_trans HG.out.1 HB2.out.size) (by omega) (by omega)).mono ?_
          rintro e w3 ⟨rfl, hb3⟩
          rw [Pl.szRet_ge (by omega)]
          have HB3 := Lib.hid (below_step HB2.out hb3)
          have HK := Lib.hid (HK.out.bel hb3)
          have p3_3 := HK.out.cell (i := 3) rfl
          have p3_4 := HK.out.cell (i := 4) rfl
          clear hb3
          go_wp2_with fail
          refine (szToldS_c x.Log _ _ _ _ _ B (HG.out.2.2.2.2.1.keep fun b hb => HB3.out.block b (Nat.lt_of_lt_of_le hb HG.out.1)) (Nat.le_trans HG.out.1 HB3.out.size) (by omega) (by omega)).mono ?_
          rintro e w4 ⟨rfl, hb4⟩
          rw [Pl.szRet_lt (by omega)]
          have HB4 := Lib.hid (below_step HB3.out hb4)
          have HK := Lib.hid (HK.out.bel hb4)
          have p4_4 := HK.out.cell (i := 4) rfl
          clear hb4
          go_wp2
          go_ret
          exact ⟨ret_int (by rw [HZ.out, Pl.szRet_lt (by omega)]), HB4.out⟩
        · skip
          by_cases t4 : left - (Pl.szl (Pl.szl Pl.szStr)) x.Texts - (Pl.szl Pl.sz0) x.Heard - (Pl.szl Pl.szNote) x.Line - (Pl.szl Pl.szTold) x.Log - (Pl.szl Pl.sz0) x.Next < 0
          · go_enter Try.func41, Try.ntmps41
            go_wp2_with fail
            refine (szStringSS_c x.Texts _ _ _ _ _ B (HG.out.2.1.keep fun b hb => HB0.out.block b (Nat.lt_of_lt_of_le hb HG.out.1)) (Nat.le_trans HG.out.1 HB0.out.size) (by omega) (by omega)).mono ?_
            rintro e w1 ⟨rfl, hb1⟩
            rw [Pl.szRet_ge (by omega)]
            have HB1 := Lib.hid (below_step HB0.out hb1)
            have HK := Lib.hid (HK.out.bel hb1)
            have p1_1 := HK.out.cell (i := 1) rfl
            have p1_2 := HK.out.cell (i := 2) rfl
            have p1_3 := HK.out.cell (i := 3) rfl
            have p1_4 := HK.out.cell (i := 4) rfl
            clear hb1
            go_wp2_with fail
            refine (szIntS_c x.Heard _ _ _ _ _ B (HG.out.2.2.1.keep fun b hb => HB1.out.block b (Nat.lt_of_lt_of_le hb HG.out.1)) (Nat.le_trans HG.out.1 HB1.out.size) (by omega) (by omega)).mono ?_
            rintro e w2 ⟨rfl, hb2⟩
            rw [Pl.szRet_ge (by omega)]
            have HB2 := Lib.hid (below_step HB1.out hb2)
            have HK := Lib.hid (HK.out.bel hb2)
            have p2_2 := HK.out.cell (i := 2) rfl
            have p2_3 := HK.out.cell (i := 3) rfl
            have p2_4 := HK.out.cell (i := 4) rfl
            clear hb2
            go_wp2_with fail
            refine (szNoteS_c x.Line _ _ _ _ _ B (HG.out.2.2.2.1.keep fun b hb => HB2.out.block b (Nat.lt_of_lt_of_le hb HG.out.1)) (Nat.le_trans HG.out.1 HB2.out.size) (by omega) (by omega)).mono ?_
            rintro e w3 ⟨rfl, hb3⟩
            rw [Pl.szRet_ge (by omega)]
            have HB3 := Lib.hid (below_step HB2.out hb3)
            have HK := Lib.hid (HK.out.bel hb3)
            have p3_3 := HK.out.cell (i := 3) rfl
            have p3_4 := HK.out.cell (i := 4) rfl
            clear hb3
            go_wp2_with fail
            refine (szToldS_c x.Log _ _ _ _ _ B (HG.out.2.2.2.2.1.keep fun b hb => HB3.out.block b (Nat.lt_of_lt_of_le hb HG.out.1)) (Nat.le_trans HG.out.1 HB3.out.size) (by omega) (by omega)).mono ?_
            rintro e w4 ⟨rfl, hb4⟩
            rw [Pl.szRet_ge (by omega)]
            have HB4 := Lib.hid (below_step HB3.out hb4)
            have HK := Lib.hid (HK.out.bel hb4)
            have p4_4 := HK.out.cell (i := 4) rfl
            clear hb4
            go_wp2_with fail
            refine (szIntS_c x.Next _ _ _ _ _ B (HG.out.2.2.2.2.2.keep fun b hb => HB4.out.block b (Nat.lt_of_lt_of_le hb HG.out.1)) (Nat.le_trans HG.out.1 HB4.out.size) (by omega) (by omega)).mono ?_
            rintro e w5 ⟨rfl, hb5⟩
            rw [Pl.szRet_lt (by omega)]
            have HB5 := Lib.hid (below_step HB4.out hb5)
            have HK := Lib.hid (HK.out.bel hb5)
            clear hb5
            go_wp2
            go_ret
            exact ⟨ret_int (by rw [HZ.out, Pl.szRet_lt (by omega)]), HB5.out⟩
          · go_enter Try.func41, Try.ntmps41
            go_wp2_with fail
            refine (szStringSS_c x.Texts _ _ _ _ _ B (HG.out.2.1.keep fun b hb => HB0.out.block b (Nat.lt_of_lt_of_le hb HG.out.1)) (Nat.le_trans HG.out.1 HB0.out.size) (by omega) (by omega)).mono ?_
            rintro e w1 ⟨rfl, hb1⟩
            rw [Pl.szRet_ge (by omega)]
            have HB1 := Lib.hid (below_step HB0.out hb1)
            have HK := Lib.hid (HK.out.bel hb1)
            have p1_1 := HK.out.cell (i := 1) rfl
            have p1_2 := HK.out.cell (i := 2) rfl
            have p1_3 := HK.out.cell (i := 3) rfl
            have p1_4 := HK.out.cell (i := 4) rfl
            clear hb1
            go_wp2_with fail
            refine (szIntS_c x.Heard _ _ _ _ _ B (HG.out.2.2.1.keep fun b hb => HB1.out.block b (Nat.lt_of_lt_of_le hb HG.out.1)) (Nat.le_trans HG.out.1 HB1.out.size) (by omega) (by omega)).mono ?_
            rintro e w2 ⟨rfl, hb2⟩
            rw [Pl.szRet_ge (by omega)]
            have HB2 := Lib.hid (below_step HB1.out hb2)
            have HK := Lib.hid (HK.out.bel hb2)
            have p2_2 := HK.out.cell (i := 2) rfl
            have p2_3 := HK.out.cell (i := 3) rfl
            have p2_4 := HK.out.cell (i := 4) rfl
            clear hb2
            go_wp2_with fail
            refine (szNoteS_c x.Line _ _ _ _ _ B (HG.out.2.2.2.1.keep fun b hb => HB2.out.block b (Nat.lt_of_lt_of_le hb HG.out.1)) (Nat.le_trans HG.out.1 HB2.out.size) (by omega) (by omega)).mono ?_
            rintro e w3 ⟨rfl, hb3⟩
            rw [Pl.szRet_ge (by omega)]
            have HB3 := Lib.hid (below_step HB2.out hb3)
            have HK := Lib.hid (HK.out.bel hb3)
            have p3_3 := HK.out.cell (i := 3) rfl
            have p3_4 := HK.out.cell (i := 4) rfl
            clear hb3
            go_wp2_with fail
            refine (szToldS_c x.Log _ _ _ _ _ B (HG.out.2.2.2.2.1.keep fun b hb => HB3.out.block b (Nat.lt_of_lt_of_le hb HG.out.1)) (Nat.le_trans HG.out.1 HB3.out.size) (by omega) (by omega)).mono ?_
            rintro e w4 ⟨rfl, hb4⟩
            rw [Pl.szRet_ge (by omega)]
            have HB4 := Lib.hid (below_step HB3.out hb4)
            have HK := Lib.hid (HK.out.bel hb4)
            have p4_4 := HK.out.cell (i := 4) rfl
            clear hb4
            go_wp2_with fail
            refine (szIntS_c x.Next _ _ _ _ _ B (HG.out.2.2.2.2.2.keep fun b hb => HB4.out.block b (Nat.lt_of_lt_of_le hb HG.out.1)) (Nat.le_trans HG.out.1 HB4.out.size) (by omega) (by omega)).mono ?_
            rintro e w5 ⟨rfl, hb5⟩
            rw [Pl.szRet_ge (by omega)]
            have HB5 := Lib.hid (below_step HB4.out hb5)
            have HK := Lib.hid (HK.out.bel hb5)
            clear hb5
            go_wp2
            go_ret
            exact ⟨ret_int (by have hh : Pl.szRet left (Pl.szTell x) = left - Pl.szTell x := Pl.szRet_ge (by rw [HZ.out]; omega); have h2 := HZ.out; omega), HB5.out⟩
theorem szTell_at (x : Tell) (cs : List Value) (left : Int) (w : World) (B : Nat) (h : rTell.at_ w B x cs) (hB : B ≤ w.heap.size) (h0 : 0 ≤ left) (h1 : left ≤ 1048576) :
    Calls Try.prog 41 #[.agg cs.toArray, .int .i64 left] w fun e w' => e = .returned (.int .i64 (Pl.szRet left (Pl.szTell x))) ∧ Below w.heap.size w w' := by
  obtain ⟨A0, n0, c0, A1, n1, c1, A2, n2, c2, A3, n3, c3, A4, n4, c4, rfl, g0, g1, g2, g3, g4⟩ := rTell_at h
  exact szTell_c x _ _ _ _ _ _ _ _ _ _ _ _ _ _ _ left _ B g0 g1 g2 g3 g4 hB h0 h1
end Go.Proofs.Ytaepohocabealaa
